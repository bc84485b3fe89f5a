/- The triggers of a happening, by the reference. -/
import Derived.Test.YtgkgbpapfjjkcaaTOg
import Derived.Deep.DeepCutAuto
import Derived.LoopTactic
import Derived.Deep.MidRow
namespace Go.Proofs.Ytgkgbpapfjjkcaa
open Go.RowKit Plain
set_option linter.unusedVariables false
set_option linter.unusedSimpArgs false

set_option maxRecDepth 100000 in
set_option maxHeartbeats 4000000 in
theorem rhof_one1(v:Value)(cs:List (Cd×List (Int×Nat)))(s:Bs)(B:Bd)(id pl:Int)(w:World)(hc:CsR w v cs)(hl:Lt cs)(h:BdR w s B)(hi:B.I)(hsm:B.Sm)(hv:VB B):Calls Try.prog 13 #[v,bv s B,.agg #[.int .i64 1,.int .i64 id,.int .i64 pl]] w (OfA w (hapK cs B 1 id pl B.ob)):=by
 have HCS:=Lib.hid hc;have HL:=Lib.hid hl;have HR:=Lib.hid h;have HI:=Lib.hid hi;have HSM:=Lib.hid hsm;have HV:=Lib.hid hv;clear hc hl h hi hsm hv;go_enter Try.func13,Try.ntmps13
 go_upto_region 1 with fail
 obtain⟨wz,hwz⟩:∃W,W=((w.alloc (.cells (bcells s B) 34)).alloc (.cells #[.int .i64 1,.int .i64 id,.int .i64 pl] 37)):=⟨_,rfl⟩
 change Code.wp Try.prog _ _ _ ((w.alloc (.cells (bcells s B) 34)).alloc (.cells #[.int .i64 1,.int .i64 id,.int .i64 pl] 37));rw[←hwz];have b1:Below w.heap.size w (w.alloc (.cells (bcells s B) 34)):=(Below.refl _ _).alloc (Nat.le_refl _) _;have b2:Below (w.alloc (.cells (bcells s B) 34)).heap.size (w.alloc (.cells (bcells s B) 34)) wz:=by rw[hwz];exact(Below.refl _ _).alloc (Nat.le_refl _) _
 have HB:Hid (Below w.heap.size w wz):=Lib.hid (below_via b1 b2);have HX:Hid (Bx wz w.heap.size s B):=Lib.hid (Bx.below (w:=(w.alloc (.cells (bcells s B) 34))) (heap_alloc_new _ _) b2);have HH:Hid (Ro wz (w.heap.size+1) #[.int .i64 1,.int .i64 id,.int .i64 pl] 37):=Lib.hid (by rw[hwz,show w.heap.size+1=(w.alloc (.cells (bcells s B) 34)).heap.size by simp];exact Ro.new _ _ _);clear hwz b1 b2;go_wp2_with (refine wpList_load_bx _ rfl rfl HX.out (by kernel_rfl) ?_)
 with_reducible refine(brvalid s B _ (HR.out.below HB.out) HI.out HSM.out).mono ?_
 rintro e w1 ⟨⟨r,rfl,hr⟩,hb⟩;replace HB:=Lib.hid (below_via HB.out hb);replace HX:=Lib.hid (HX.out.below hb);replace HH:=Lib.hid (HH.out.below hb);obtain rfl:r=true:=hr.2 HV.out;clear hb hr
 obtain⟨_,oa,ocp,hov,hof⟩:=(HR.out.ob.below HB.out).form
 have c0:w1.cell? ⟨w.heap.size,0,none⟩=some (.slice oa B.ob.length ocp):=by rw[←hov];exact HX.out.cell 0
 have HC0:=Lib.hid c0;have HOF:=Lib.hid hof;have HN:Hid (B.ob.length≤500):=Lib.hid (by have h:=HV.out.num;unfold vNum at h;exact h.2.2.2.2.2.1);have hn5:B.ob.length≤500:=HN.out;have HXL:Hid (w.heap.size<w1.heap.size):=Lib.hid HX.out.lt;clear hov hof;go_wp2_with fail
 clear c0
 go_loopw [7,8] (fun lv i wr=>HpL w1 cs B 1 id pl lv i wr) (fun _ i _=>B.ob.length-(intOf i).toNat)
 case atStart=>exact⟨0,none,0,by omega,rfl,rfl,Below.refl _ _,Ow.nil _ _ _⟩
 case round=>
  obtain⟨k,la,lc,hk,rfl,rfl,hb,ho⟩:=hrel
  have HBR:=Lib.hid hb;have HOW:=Lib.hid ho;have HLK:Hid ((hapK cs B 1 id pl (B.ob.take k)).length≤1000):=Lib.hid (by have h:=hapK_len cs B 1 id pl (B.ob.take k);rw[List.length_take] at h;omega);have c0:wr.cell? ⟨w.heap.size,0,none⟩=some (.slice oa B.ob.length ocp):=(HBR.out.cell (p:=⟨w.heap.size,0,none⟩) HXL.out).trans HC0.out;clear hb ho
  by_cases hkl:k<B.ob.length
  case neg=>
   obtain rfl:k=B.ob.length:=by omega
   have t1:decide ((B.ob.length:Int)<(B.ob.length:Int))=false:=decide_eq_false (by omega);have t1':decide (B.ob.length<B.ob.length)=false:=decide_eq_false (by omega);rw[List.take_length] at HOW ⊢
   go_wp2_with fail
   go_returns
   exact⟨la,lc,rfl,HOW.out.base (fun b hb=>Nat.le_trans HB.out.size (HOW.out.typ b hb).1),below_via HB.out HBR.out⟩
  case pos=>
  have t1:decide ((k:Int)<(B.ob.length:Int))=true:=decide_eq_true (by omega);have t1':decide (k<B.ob.length)=true:=decide_eq_true hkl
  obtain⟨x,hx⟩:∃x,B.ob[k]? =some x:=⟨_,List.getElem?_eq_getElem hkl⟩
  obtain⟨b,off,rfl,hlb,hc⟩:=HOF.out (by omega)
  have hrg:wr.rangeAt b (off+k*12) (oc x):=fun j u hu=>by rw[Nat.add_assoc];exact(HBR.out.cell (p:=⟨b,_,none⟩) hlb).trans (hc k x hx j u hu)
  have HRG:=Lib.hid hrg;have HXX:=Lib.hid hx;have i1:(0:Int)≤(k:Int):=by omega
  have i2:(k:Int)<(B.ob.length:Int):=by omega
  clear hc hrg hx;go_wp2_with (first|(refine wpList_load_mid rfl 83 _ rfl b (off+k*12) rfl (oc x) _ HRG.out Try.underlying83 rfl rfl ?_)|(refine wpList_store_o rfl x _ _ rfl rfl rfl (heap_alloc_new _ _) rfl ?_))
  intro w3 hw3;have hbx:=boxed_o hw3.out
  obtain⟨T,hT⟩:∃n,n=wr.heap.size:=⟨_,rfl⟩
  rw[←hT] at hbx ⊢
  have HZ:=Lib.hid hbx.2;replace HOW:=Lib.hid (HOW.out.below (hT▸hbx.1));replace HBR:=Lib.hid (below_via HBR.out (hT▸hbx.1));have z0:w3.cell? ⟨T,0,none⟩=some (.int .i64 x.id):=by rw[cell_of_row w3 T 0 _ 83 (0,0) HZ.out];rfl
  have zl:T<w3.heap.size:=Ro.lt HZ.out;have HHR:=Lib.hid (HH.out.below HBR.out);have hl1:w.heap.size+1<w3.heap.size:=HHR.out.lt;have d0:w3.cell? ⟨w.heap.size+1,0,none⟩=some (.int .i64 1):=HHR.out.cell 0;have d1:w3.cell? ⟨w.heap.size+1,1,none⟩=some (.int .i64 id):=HHR.out.cell 1;have d2:w3.cell? ⟨w.heap.size+1,2,none⟩=some (.int .i64 pl):=HHR.out.cell 2;clear hw3 hbx hT i1 i2 hlb HRG c0 t1 t1'
  obtain⟨r,hr⟩:∃r,decide (x.id=id)=r:=⟨_,rfl⟩
  have tx:(x.id==id)=r:=by rw[←hr,Bool.eq_iff_iff];simp
  have HRR:Hid (abt B 1 id pl x=r):=Lib.hid (by unfold abt;simpa using hr);clear hr
  cases r
  case false=>
   have hno:hapK cs B 1 id pl (B.ob.take (k+1))=hapK cs B 1 id pl (B.ob.take k):=hapK_no HXX.out HRR.out;have HNO:=Lib.hid hno;clear hno;go_wp2_with fail
   go_roundw
   case rel=>exact⟨k+1,la,lc,by omega,by go_num,by rw[HNO.out],HBR.out,by rw[HNO.out];exact HOW.out⟩
   case measure=>simp[intOf];omega
  case true=>
   have hyes:hapK cs B 1 id pl (B.ob.take (k+1))=hapK cs B 1 id pl (B.ob.take k)++trO cs 1 x:=hapK_yes HXX.out HRR.out;have HYES:=Lib.hid hyes;have HLT:Hid ((trO cs 1 x).length≤2):=Lib.hid (trO_len cs 1 x);clear hyes
   go_upto_region 12 with fail
   go_wp2_with (refine wpList_load_o x _ rfl rfl HZ.out (by kernel_rfl) ?_)
   with_reducible refine(rofv v cs x 1 _ ((HCS.out.below HB.out).below HBR.out) HL.out).mono ?_
   rintro e w5 ⟨ma,mc,rfl,hm,hb⟩;replace HBR:=Lib.hid (below_via HBR.out hb);replace HOW:=Lib.hid (HOW.out.below hb);have HM:=Lib.hid (Rw.of_ow hm);clear hb hm HZ d0;go_wp2_with (at_builtin;refine wpList_append_ow (f:=itc) (sz:=5) rfl _ _ 30 rfl w1.heap.size 60 (.agg #[.int .i64 0,.int .i64 0,.int .i64 0,.int .i64 0,.slice none 0 0]) 56 Try.underlying30 infoX rfl (by decide) _ ((hapK cs B 1 id pl (B.ob.take k)).map nilI) rfl HOW.out itc_ok _ ((trO cs 1 x).map nilI) rfl HM.out ?c2 ?c3 ?c4 ?_)
   case c2=>simp[maxLen];have:=HLK.out;have:=HLT.out;omega
   case c3=>simp;have:=HLK.out;have:=HLT.out;omega
   case c4=>exact HBR.out.size
   intro v8 w8 ho8 hg8 hv8
   obtain⟨va,vc,rfl⟩:=ho8.form
   have hb8:Below w1.heap.size w1 w8:=HBR.out.grown hg8 HBR.out.size (fun q hq=>(HOW.out.typ q hq).1);rw[←List.map_append,←HYES.out,List.length_map] at ho8
   rw[show((hapK cs B 1 id pl (B.ob.take k)).map nilI++(trO cs 1 x).map nilI).length=(hapK cs B 1 id pl (B.ob.take (k+1))).length by rw[←List.map_append,←HYES.out,List.length_map]];have HO8:=Lib.hid ho8;have HB8:=Lib.hid hb8;clear ho8 hg8 hv8 hb8;go_wp2_with fail
   go_roundw
   case rel=>exact⟨k+1,va,vc,by omega,by go_num,rfl,HB8.out,HO8.out⟩
   case measure=>simp[intOf];omega
set_option maxRecDepth 100000 in
set_option maxHeartbeats 4000000 in
theorem rhof_one2(v:Value)(cs:List (Cd×List (Int×Nat)))(s:Bs)(B:Bd)(id pl:Int)(w:World)(hc:CsR w v cs)(hl:Lt cs)(h:BdR w s B)(hi:B.I)(hsm:B.Sm)(hv:VB B):Calls Try.prog 13 #[v,bv s B,.agg #[.int .i64 2,.int .i64 id,.int .i64 pl]] w (OfA w (hapK cs B 2 id pl B.ob)):=by
 have HCS:=Lib.hid hc;have HL:=Lib.hid hl;have HR:=Lib.hid h;have HI:=Lib.hid hi;have HSM:=Lib.hid hsm;have HV:=Lib.hid hv;clear hc hl h hi hsm hv;go_enter Try.func13,Try.ntmps13
 go_upto_region 1 with fail
 obtain⟨wz,hwz⟩:∃W,W=((w.alloc (.cells (bcells s B) 34)).alloc (.cells #[.int .i64 2,.int .i64 id,.int .i64 pl] 37)):=⟨_,rfl⟩
 change Code.wp Try.prog _ _ _ ((w.alloc (.cells (bcells s B) 34)).alloc (.cells #[.int .i64 2,.int .i64 id,.int .i64 pl] 37));rw[←hwz];have b1:Below w.heap.size w (w.alloc (.cells (bcells s B) 34)):=(Below.refl _ _).alloc (Nat.le_refl _) _;have b2:Below (w.alloc (.cells (bcells s B) 34)).heap.size (w.alloc (.cells (bcells s B) 34)) wz:=by rw[hwz];exact(Below.refl _ _).alloc (Nat.le_refl _) _
 have HB:Hid (Below w.heap.size w wz):=Lib.hid (below_via b1 b2);have HX:Hid (Bx wz w.heap.size s B):=Lib.hid (Bx.below (w:=(w.alloc (.cells (bcells s B) 34))) (heap_alloc_new _ _) b2);have HH:Hid (Ro wz (w.heap.size+1) #[.int .i64 2,.int .i64 id,.int .i64 pl] 37):=Lib.hid (by rw[hwz,show w.heap.size+1=(w.alloc (.cells (bcells s B) 34)).heap.size by simp];exact Ro.new _ _ _);clear hwz b1 b2;go_wp2_with (refine wpList_load_bx _ rfl rfl HX.out (by kernel_rfl) ?_)
 with_reducible refine(brvalid s B _ (HR.out.below HB.out) HI.out HSM.out).mono ?_
 rintro e w1 ⟨⟨r,rfl,hr⟩,hb⟩;replace HB:=Lib.hid (below_via HB.out hb);replace HX:=Lib.hid (HX.out.below hb);replace HH:=Lib.hid (HH.out.below hb);obtain rfl:r=true:=hr.2 HV.out;clear hb hr
 obtain⟨_,oa,ocp,hov,hof⟩:=(HR.out.ob.below HB.out).form
 have c0:w1.cell? ⟨w.heap.size,0,none⟩=some (.slice oa B.ob.length ocp):=by rw[←hov];exact HX.out.cell 0
 have HC0:=Lib.hid c0;have HOF:=Lib.hid hof;have HN:Hid (B.ob.length≤500):=Lib.hid (by have h:=HV.out.num;unfold vNum at h;exact h.2.2.2.2.2.1);have hn5:B.ob.length≤500:=HN.out;have HXL:Hid (w.heap.size<w1.heap.size):=Lib.hid HX.out.lt;clear hov hof;go_wp2_with fail
 clear c0
 go_loopw [7,8] (fun lv i wr=>HpL w1 cs B 2 id pl lv i wr) (fun _ i _=>B.ob.length-(intOf i).toNat)
 case atStart=>exact⟨0,none,0,by omega,rfl,rfl,Below.refl _ _,Ow.nil _ _ _⟩
 case round=>
  obtain⟨k,la,lc,hk,rfl,rfl,hb,ho⟩:=hrel
  have HBR:=Lib.hid hb;have HOW:=Lib.hid ho;have HLK:Hid ((hapK cs B 2 id pl (B.ob.take k)).length≤1000):=Lib.hid (by have h:=hapK_len cs B 2 id pl (B.ob.take k);rw[List.length_take] at h;omega);have c0:wr.cell? ⟨w.heap.size,0,none⟩=some (.slice oa B.ob.length ocp):=(HBR.out.cell (p:=⟨w.heap.size,0,none⟩) HXL.out).trans HC0.out;clear hb ho
  by_cases hkl:k<B.ob.length
  case neg=>
   obtain rfl:k=B.ob.length:=by omega
   have t1:decide ((B.ob.length:Int)<(B.ob.length:Int))=false:=decide_eq_false (by omega);have t1':decide (B.ob.length<B.ob.length)=false:=decide_eq_false (by omega);rw[List.take_length] at HOW ⊢
   go_wp2_with fail
   go_returns
   exact⟨la,lc,rfl,HOW.out.base (fun b hb=>Nat.le_trans HB.out.size (HOW.out.typ b hb).1),below_via HB.out HBR.out⟩
  case pos=>
  have t1:decide ((k:Int)<(B.ob.length:Int))=true:=decide_eq_true (by omega);have t1':decide (k<B.ob.length)=true:=decide_eq_true hkl
  obtain⟨x,hx⟩:∃x,B.ob[k]? =some x:=⟨_,List.getElem?_eq_getElem hkl⟩
  obtain⟨b,off,rfl,hlb,hc⟩:=HOF.out (by omega)
  have hrg:wr.rangeAt b (off+k*12) (oc x):=fun j u hu=>by rw[Nat.add_assoc];exact(HBR.out.cell (p:=⟨b,_,none⟩) hlb).trans (hc k x hx j u hu)
  have HRG:=Lib.hid hrg;have HXX:=Lib.hid hx;have i1:(0:Int)≤(k:Int):=by omega
  have i2:(k:Int)<(B.ob.length:Int):=by omega
  clear hc hrg hx;go_wp2_with (first|(refine wpList_load_mid rfl 83 _ rfl b (off+k*12) rfl (oc x) _ HRG.out Try.underlying83 rfl rfl ?_)|(refine wpList_store_o rfl x _ _ rfl rfl rfl (heap_alloc_new _ _) rfl ?_))
  intro w3 hw3;have hbx:=boxed_o hw3.out
  obtain⟨T,hT⟩:∃n,n=wr.heap.size:=⟨_,rfl⟩
  rw[←hT] at hbx ⊢
  have HZ:=Lib.hid hbx.2;replace HOW:=Lib.hid (HOW.out.below (hT▸hbx.1));replace HBR:=Lib.hid (below_via HBR.out (hT▸hbx.1));have z0:w3.cell? ⟨T,0,none⟩=some (.int .i64 x.id):=by rw[cell_of_row w3 T 0 _ 83 (0,0) HZ.out];rfl
  have zl:T<w3.heap.size:=Ro.lt HZ.out;have HHR:=Lib.hid (HH.out.below HBR.out);have hl1:w.heap.size+1<w3.heap.size:=HHR.out.lt;have d0:w3.cell? ⟨w.heap.size+1,0,none⟩=some (.int .i64 2):=HHR.out.cell 0;have d1:w3.cell? ⟨w.heap.size+1,1,none⟩=some (.int .i64 id):=HHR.out.cell 1;have d2:w3.cell? ⟨w.heap.size+1,2,none⟩=some (.int .i64 pl):=HHR.out.cell 2;clear hw3 hbx hT i1 i2 hlb HRG c0 t1 t1'
  obtain⟨r,hr⟩:∃r,decide (x.id=id)=r:=⟨_,rfl⟩
  have tx:(x.id==id)=r:=by rw[←hr,Bool.eq_iff_iff];simp
  have HRR:Hid (abt B 2 id pl x=r):=Lib.hid (by unfold abt;simpa using hr);clear hr
  cases r
  case false=>
   have hno:hapK cs B 2 id pl (B.ob.take (k+1))=hapK cs B 2 id pl (B.ob.take k):=hapK_no HXX.out HRR.out;have HNO:=Lib.hid hno;clear hno;go_wp2_with fail
   go_roundw
   case rel=>exact⟨k+1,la,lc,by omega,by go_num,by rw[HNO.out],HBR.out,by rw[HNO.out];exact HOW.out⟩
   case measure=>simp[intOf];omega
  case true=>
   have hyes:hapK cs B 2 id pl (B.ob.take (k+1))=hapK cs B 2 id pl (B.ob.take k)++trO cs 2 x:=hapK_yes HXX.out HRR.out;have HYES:=Lib.hid hyes;have HLT:Hid ((trO cs 2 x).length≤2):=Lib.hid (trO_len cs 2 x);clear hyes
   go_upto_region 12 with fail
   go_wp2_with (refine wpList_load_o x _ rfl rfl HZ.out (by kernel_rfl) ?_)
   with_reducible refine(rofv v cs x 2 _ ((HCS.out.below HB.out).below HBR.out) HL.out).mono ?_
   rintro e w5 ⟨ma,mc,rfl,hm,hb⟩;replace HBR:=Lib.hid (below_via HBR.out hb);replace HOW:=Lib.hid (HOW.out.below hb);have HM:=Lib.hid (Rw.of_ow hm);clear hb hm HZ d0;go_wp2_with (at_builtin;refine wpList_append_ow (f:=itc) (sz:=5) rfl _ _ 30 rfl w1.heap.size 60 (.agg #[.int .i64 0,.int .i64 0,.int .i64 0,.int .i64 0,.slice none 0 0]) 56 Try.underlying30 infoX rfl (by decide) _ ((hapK cs B 2 id pl (B.ob.take k)).map nilI) rfl HOW.out itc_ok _ ((trO cs 2 x).map nilI) rfl HM.out ?c2 ?c3 ?c4 ?_)
   case c2=>simp[maxLen];have:=HLK.out;have:=HLT.out;omega
   case c3=>simp;have:=HLK.out;have:=HLT.out;omega
   case c4=>exact HBR.out.size
   intro v8 w8 ho8 hg8 hv8
   obtain⟨va,vc,rfl⟩:=ho8.form
   have hb8:Below w1.heap.size w1 w8:=HBR.out.grown hg8 HBR.out.size (fun q hq=>(HOW.out.typ q hq).1);rw[←List.map_append,←HYES.out,List.length_map] at ho8
   rw[show((hapK cs B 2 id pl (B.ob.take k)).map nilI++(trO cs 2 x).map nilI).length=(hapK cs B 2 id pl (B.ob.take (k+1))).length by rw[←List.map_append,←HYES.out,List.length_map]];have HO8:=Lib.hid ho8;have HB8:=Lib.hid hb8;clear ho8 hg8 hv8 hb8;go_wp2_with fail
   go_roundw
   case rel=>exact⟨k+1,va,vc,by omega,by go_num,rfl,HB8.out,HO8.out⟩
   case measure=>simp[intOf];omega
set_option maxRecDepth 100000 in
set_option maxHeartbeats 4000000 in
theorem rhof_up0(v:Value)(cs:List (Cd×List (Int×Nat)))(s:Bs)(B:Bd)(id:Int)(w:World)(hc:CsR w v cs)(hl:Lt cs)(h:BdR w s B)(hi:B.I)(hsm:B.Sm)(hv:VB B):Calls Try.prog 13 #[v,bv s B,.agg #[.int .i64 3,.int .i64 id,.int .i64 0]] w (OfA w (hapK cs B 3 id 0 B.ob)):=by
 have HCS:=Lib.hid hc;have HL:=Lib.hid hl;have HR:=Lib.hid h;have HI:=Lib.hid hi;have HSM:=Lib.hid hsm;have HV:=Lib.hid hv;clear hc hl h hi hsm hv;go_enter Try.func13,Try.ntmps13
 go_upto_region 1 with fail
 obtain⟨wz,hwz⟩:∃W,W=((w.alloc (.cells (bcells s B) 34)).alloc (.cells #[.int .i64 3,.int .i64 id,.int .i64 0] 37)):=⟨_,rfl⟩
 change Code.wp Try.prog _ _ _ ((w.alloc (.cells (bcells s B) 34)).alloc (.cells #[.int .i64 3,.int .i64 id,.int .i64 0] 37));rw[←hwz];have b1:Below w.heap.size w (w.alloc (.cells (bcells s B) 34)):=(Below.refl _ _).alloc (Nat.le_refl _) _;have b2:Below (w.alloc (.cells (bcells s B) 34)).heap.size (w.alloc (.cells (bcells s B) 34)) wz:=by rw[hwz];exact(Below.refl _ _).alloc (Nat.le_refl _) _
 have HB:Hid (Below w.heap.size w wz):=Lib.hid (below_via b1 b2);have HX:Hid (Bx wz w.heap.size s B):=Lib.hid (Bx.below (w:=(w.alloc (.cells (bcells s B) 34))) (heap_alloc_new _ _) b2);have HH:Hid (Ro wz (w.heap.size+1) #[.int .i64 3,.int .i64 id,.int .i64 0] 37):=Lib.hid (by rw[hwz,show w.heap.size+1=(w.alloc (.cells (bcells s B) 34)).heap.size by simp];exact Ro.new _ _ _);clear hwz b1 b2;go_wp2_with (refine wpList_load_bx _ rfl rfl HX.out (by kernel_rfl) ?_)
 with_reducible refine(brvalid s B _ (HR.out.below HB.out) HI.out HSM.out).mono ?_
 rintro e w1 ⟨⟨r,rfl,hr⟩,hb⟩;replace HB:=Lib.hid (below_via HB.out hb);replace HX:=Lib.hid (HX.out.below hb);replace HH:=Lib.hid (HH.out.below hb);obtain rfl:r=true:=hr.2 HV.out;clear hb hr
 obtain⟨_,oa,ocp,hov,hof⟩:=(HR.out.ob.below HB.out).form
 have c0:w1.cell? ⟨w.heap.size,0,none⟩=some (.slice oa B.ob.length ocp):=by rw[←hov];exact HX.out.cell 0
 have HC0:=Lib.hid c0;have HOF:=Lib.hid hof;have HN:Hid (B.ob.length≤500):=Lib.hid (by have h:=HV.out.num;unfold vNum at h;exact h.2.2.2.2.2.1);have hn5:B.ob.length≤500:=HN.out;have HXL:Hid (w.heap.size<w1.heap.size):=Lib.hid HX.out.lt;clear hov hof
 obtain⟨_,fa,fcp,hfv,_⟩:=(HR.out.s0.f.below HB.out).form
 have c1:w1.cell? ⟨w.heap.size,8,none⟩=some (.slice fa B.s0.fld.length fcp):=by rw[←hfv];exact HX.out.cell 8
 have HF:Hid (Rw ic 1 w1 (.slice fa B.s0.fld.length fcp) B.s0.fld):=Lib.hid (by rw[←hfv];exact HR.out.s0.f.below HB.out);have HC1:=Lib.hid c1;clear hfv c1;go_wp2_with fail
 clear c0
 go_loopw [7,8] (fun lv i wr=>HpL w1 cs B 3 id 0 lv i wr) (fun _ i _=>B.ob.length-(intOf i).toNat)
 case atStart=>exact⟨0,none,0,by omega,rfl,rfl,Below.refl _ _,Ow.nil _ _ _⟩
 case round=>
  obtain⟨k,la,lc,hk,rfl,rfl,hb,ho⟩:=hrel
  have HBR:=Lib.hid hb;have HOW:=Lib.hid ho;have HLK:Hid ((hapK cs B 3 id 0 (B.ob.take k)).length≤1000):=Lib.hid (by have h:=hapK_len cs B 3 id 0 (B.ob.take k);rw[List.length_take] at h;omega);have c0:wr.cell? ⟨w.heap.size,0,none⟩=some (.slice oa B.ob.length ocp):=(HBR.out.cell (p:=⟨w.heap.size,0,none⟩) HXL.out).trans HC0.out;clear hb ho
  by_cases hkl:k<B.ob.length
  case neg=>
   obtain rfl:k=B.ob.length:=by omega
   have t1:decide ((B.ob.length:Int)<(B.ob.length:Int))=false:=decide_eq_false (by omega);have t1':decide (B.ob.length<B.ob.length)=false:=decide_eq_false (by omega);rw[List.take_length] at HOW ⊢
   go_wp2_with fail
   go_returns
   exact⟨la,lc,rfl,HOW.out.base (fun b hb=>Nat.le_trans HB.out.size (HOW.out.typ b hb).1),below_via HB.out HBR.out⟩
  case pos=>
  have t1:decide ((k:Int)<(B.ob.length:Int))=true:=decide_eq_true (by omega);have t1':decide (k<B.ob.length)=true:=decide_eq_true hkl
  obtain⟨x,hx⟩:∃x,B.ob[k]? =some x:=⟨_,List.getElem?_eq_getElem hkl⟩
  obtain⟨b,off,rfl,hlb,hc⟩:=HOF.out (by omega)
  have hrg:wr.rangeAt b (off+k*12) (oc x):=fun j u hu=>by rw[Nat.add_assoc];exact(HBR.out.cell (p:=⟨b,_,none⟩) hlb).trans (hc k x hx j u hu)
  have HRG:=Lib.hid hrg;have HXX:=Lib.hid hx;have i1:(0:Int)≤(k:Int):=by omega
  have i2:(k:Int)<(B.ob.length:Int):=by omega
  clear hc hrg hx;go_wp2_with (first|(refine wpList_load_mid rfl 83 _ rfl b (off+k*12) rfl (oc x) _ HRG.out Try.underlying83 rfl rfl ?_)|(refine wpList_store_o rfl x _ _ rfl rfl rfl (heap_alloc_new _ _) rfl ?_))
  intro w3 hw3;have hbx:=boxed_o hw3.out
  obtain⟨T,hT⟩:∃n,n=wr.heap.size:=⟨_,rfl⟩
  rw[←hT] at hbx ⊢
  have HZ:=Lib.hid hbx.2;replace HOW:=Lib.hid (HOW.out.below (hT▸hbx.1));replace HBR:=Lib.hid (below_via HBR.out (hT▸hbx.1));have z0:w3.cell? ⟨T,0,none⟩=some (.int .i64 x.id):=by rw[cell_of_row w3 T 0 _ 83 (0,0) HZ.out];rfl
  have zl:T<w3.heap.size:=Ro.lt HZ.out;have HHR:=Lib.hid (HH.out.below HBR.out);have hl1:w.heap.size+1<w3.heap.size:=HHR.out.lt;have d0:w3.cell? ⟨w.heap.size+1,0,none⟩=some (.int .i64 3):=HHR.out.cell 0;have d1:w3.cell? ⟨w.heap.size+1,1,none⟩=some (.int .i64 id):=HHR.out.cell 1;have d2:w3.cell? ⟨w.heap.size+1,2,none⟩=some (.int .i64 0):=HHR.out.cell 2;clear hw3 hbx hT i1 i2 hlb HRG c0 t1 t1'
  obtain⟨r,hr⟩:∃r,decide (x.id∈B.s0.fld)=r:=⟨_,rfl⟩
  have hl0:w.heap.size<w3.heap.size:=by omega
  have c1:w3.cell? ⟨w.heap.size,8,none⟩=some (.slice fa B.s0.fld.length fcp):=(HBR.out.cell (p:=⟨w.heap.size,8,none⟩) HXL.out).trans HC1.out;have HRR:Hid (abt B 3 id 0 x=r):=Lib.hid (by unfold abt Bd.seat;simpa using hr)
  have qc:(((B.s0.fld.count x.id:Nat):Int)==1)=r:=by
   have hnd:B.s0.fld.Nodup:=Plc.fld_nd HV.out.plc 0;rw[←hr,hnd.count]
   by_cases hm:x.id∈B.s0.fld<;>simp[hm]
  clear hr
  go_upto_region 10 with fail
  refine rg13_10 (w0:=w3) (B:=w3.heap.size) (n:=w3.heap.size) (L:=[]) (by kernel_rfl) rfl (by kernel_rfl) (.t ⟨by go_grown,by go_size,(by simp[go_sem]<;>omega)⟩) (fun w91 K_w91 E_w91 F_w91=> ?_);have _ne:Nonempty (KX (w3.heap.size) w3 (w3.heap.size) [] (fun _=>True)):=⟨⟨_,K_w91,E_w91⟩⟩
  repeat (go_big_quiet_step (fail))
  refine wpQuiet_nil ?_;have ra:=rck _ne d2 hl1;have rb:=rck _ne c1 hl0;have rc:=rck _ne z0 zl
  repeat (go_big_quiet_step (fail))
  refine wpQuiet_nil ?_
  repeat (go_big_quiet_step (fail))
  refine wpQuiet_nil ?_
  repeat (go_big_quiet_step (fail))
  refine wpQuiet_nil ?_;have KH_w91:=Lib.hid K_w91;have hw_w91:=K_w91.below;have hz_w91:=K_w91.size;clear K_w91;clear E_w91 F_w91
  refine⟨fun K hK0=> ?_,trivial⟩
  have hK:=Lib.hid hK0;clear hK0;go_wp2_with fail
  with_reducible refine(countI _ _ _ _ ((HF.out.below HBR.out).below KH_w91.out.below)).mono ?_
  rintro e w99 ⟨rfl,rfl⟩;go_wp2_with fail
  first|refine⟨rfl,?u,hK.out _ _ ?_⟩|refine⟨?u,hK.out _ _ ?_⟩
  case u=>exact⟨⟨_,KH_w91.out,trivial⟩,rfl⟩
  clear hK K
  repeat (go_big_quiet_step (fail))
  refine wpQuiet_nil ?_;clear ra rb rc;clear _ne;replace HOW:=Lib.hid (HOW.out.below KH_w91.out.below);replace HZ:Hid (w91.heap[T]? =some (.cells (oc x).toArray 83 (0,0))):=Lib.hid (Ro.below HZ.out KH_w91.out.below);replace HBR:=Lib.hid (below_via HBR.out KH_w91.out.below);replace HHR:=Lib.hid (HHR.out.below KH_w91.out.below);clear d0 d1 d2 c1 z0 zl hl0 hl1;have d0:w91.cell? ⟨w.heap.size+1,0,none⟩=some (.int .i64 3):=HHR.out.cell 0
  cases r
  case false=>
   have hno:hapK cs B 3 id 0 (B.ob.take (k+1))=hapK cs B 3 id 0 (B.ob.take k):=hapK_no HXX.out HRR.out;have HNO:=Lib.hid hno;clear hno;go_wp2_with fail
   go_roundw
   case rel=>exact⟨k+1,la,lc,by omega,by go_num,by rw[HNO.out],HBR.out,by rw[HNO.out];exact HOW.out⟩
   case measure=>simp[intOf];omega
  case true=>
   have hyes:hapK cs B 3 id 0 (B.ob.take (k+1))=hapK cs B 3 id 0 (B.ob.take k)++trO cs 3 x:=hapK_yes HXX.out HRR.out;have HYES:=Lib.hid hyes;have HLT:Hid ((trO cs 3 x).length≤2):=Lib.hid (trO_len cs 3 x);clear hyes
   go_upto_region 12 with fail
   go_wp2_with (refine wpList_load_o x _ rfl rfl HZ.out (by kernel_rfl) ?_)
   with_reducible refine(rofv v cs x 3 _ ((HCS.out.below HB.out).below HBR.out) HL.out).mono ?_
   rintro e w5 ⟨ma,mc,rfl,hm,hb⟩;replace HBR:=Lib.hid (below_via HBR.out hb);replace HOW:=Lib.hid (HOW.out.below hb);have HM:=Lib.hid (Rw.of_ow hm);clear hb hm HZ d0;go_wp2_with (at_builtin;refine wpList_append_ow (f:=itc) (sz:=5) rfl _ _ 30 rfl w1.heap.size 60 (.agg #[.int .i64 0,.int .i64 0,.int .i64 0,.int .i64 0,.slice none 0 0]) 56 Try.underlying30 infoX rfl (by decide) _ ((hapK cs B 3 id 0 (B.ob.take k)).map nilI) rfl HOW.out itc_ok _ ((trO cs 3 x).map nilI) rfl HM.out ?c2 ?c3 ?c4 ?_)
   case c2=>simp[maxLen];have:=HLK.out;have:=HLT.out;omega
   case c3=>simp;have:=HLK.out;have:=HLT.out;omega
   case c4=>exact HBR.out.size
   intro v8 w8 ho8 hg8 hv8
   obtain⟨va,vc,rfl⟩:=ho8.form
   have hb8:Below w1.heap.size w1 w8:=HBR.out.grown hg8 HBR.out.size (fun q hq=>(HOW.out.typ q hq).1);rw[←List.map_append,←HYES.out,List.length_map] at ho8
   rw[show((hapK cs B 3 id 0 (B.ob.take k)).map nilI++(trO cs 3 x).map nilI).length=(hapK cs B 3 id 0 (B.ob.take (k+1))).length by rw[←List.map_append,←HYES.out,List.length_map]];have HO8:=Lib.hid ho8;have HB8:=Lib.hid hb8;clear ho8 hg8 hv8 hb8;go_wp2_with fail
   go_roundw
   case rel=>exact⟨k+1,va,vc,by omega,by go_num,rfl,HB8.out,HO8.out⟩
   case measure=>simp[intOf];omega
set_option maxRecDepth 100000 in
set_option maxHeartbeats 4000000 in
theorem rhof_up1(v:Value)(cs:List (Cd×List (Int×Nat)))(s:Bs)(B:Bd)(id:Int)(w:World)(hc:CsR w v cs)(hl:Lt cs)(h:BdR w s B)(hi:B.I)(hsm:B.Sm)(hv:VB B):Calls Try.prog 13 #[v,bv s B,.agg #[.int .i64 3,.int .i64 id,.int .i64 1]] w (OfA w (hapK cs B 3 id 1 B.ob)):=by
 have HCS:=Lib.hid hc;have HL:=Lib.hid hl;have HR:=Lib.hid h;have HI:=Lib.hid hi;have HSM:=Lib.hid hsm;have HV:=Lib.hid hv;clear hc hl h hi hsm hv;go_enter Try.func13,Try.ntmps13
 go_upto_region 1 with fail
 obtain⟨wz,hwz⟩:∃W,W=((w.alloc (.cells (bcells s B) 34)).alloc (.cells #[.int .i64 3,.int .i64 id,.int .i64 1] 37)):=⟨_,rfl⟩
 change Code.wp Try.prog _ _ _ ((w.alloc (.cells (bcells s B) 34)).alloc (.cells #[.int .i64 3,.int .i64 id,.int .i64 1] 37));rw[←hwz];have b1:Below w.heap.size w (w.alloc (.cells (bcells s B) 34)):=(Below.refl _ _).alloc (Nat.le_refl _) _;have b2:Below (w.alloc (.cells (bcells s B) 34)).heap.size (w.alloc (.cells (bcells s B) 34)) wz:=by rw[hwz];exact(Below.refl _ _).alloc (Nat.le_refl _) _
 have HB:Hid (Below w.heap.size w wz):=Lib.hid (below_via b1 b2);have HX:Hid (Bx wz w.heap.size s B):=Lib.hid (Bx.below (w:=(w.alloc (.cells (bcells s B) 34))) (heap_alloc_new _ _) b2);have HH:Hid (Ro wz (w.heap.size+1) #[.int .i64 3,.int .i64 id,.int .i64 1] 37):=Lib.hid (by rw[hwz,show w.heap.size+1=(w.alloc (.cells (bcells s B) 34)).heap.size by simp];exact Ro.new _ _ _);clear hwz b1 b2;go_wp2_with (refine wpList_load_bx _ rfl rfl HX.out (by kernel_rfl) ?_)
 with_reducible refine(brvalid s B _ (HR.out.below HB.out) HI.out HSM.out).mono ?_
 rintro e w1 ⟨⟨r,rfl,hr⟩,hb⟩;replace HB:=Lib.hid (below_via HB.out hb);replace HX:=Lib.hid (HX.out.below hb);replace HH:=Lib.hid (HH.out.below hb);obtain rfl:r=true:=hr.2 HV.out;clear hb hr
 obtain⟨_,oa,ocp,hov,hof⟩:=(HR.out.ob.below HB.out).form
 have c0:w1.cell? ⟨w.heap.size,0,none⟩=some (.slice oa B.ob.length ocp):=by rw[←hov];exact HX.out.cell 0
 have HC0:=Lib.hid c0;have HOF:=Lib.hid hof;have HN:Hid (B.ob.length≤500):=Lib.hid (by have h:=HV.out.num;unfold vNum at h;exact h.2.2.2.2.2.1);have hn5:B.ob.length≤500:=HN.out;have HXL:Hid (w.heap.size<w1.heap.size):=Lib.hid HX.out.lt;clear hov hof
 obtain⟨_,fa,fcp,hfv,_⟩:=(HR.out.s1.f.below HB.out).form
 have c1:w1.cell? ⟨w.heap.size,22,none⟩=some (.slice fa B.s1.fld.length fcp):=by rw[←hfv];exact HX.out.cell 22
 have HF:Hid (Rw ic 1 w1 (.slice fa B.s1.fld.length fcp) B.s1.fld):=Lib.hid (by rw[←hfv];exact HR.out.s1.f.below HB.out);have HC1:=Lib.hid c1;clear hfv c1;go_wp2_with fail
 clear c0
 go_loopw [7,8] (fun lv i wr=>HpL w1 cs B 3 id 1 lv i wr) (fun _ i _=>B.ob.length-(intOf i).toNat)
 case atStart=>exact⟨0,none,0,by omega,rfl,rfl,Below.refl _ _,Ow.nil _ _ _⟩
 case round=>
  obtain⟨k,la,lc,hk,rfl,rfl,hb,ho⟩:=hrel
  have HBR:=Lib.hid hb;have HOW:=Lib.hid ho;have HLK:Hid ((hapK cs B 3 id 1 (B.ob.take k)).length≤1000):=Lib.hid (by have h:=hapK_len cs B 3 id 1 (B.ob.take k);rw[List.length_take] at h;omega);have c0:wr.cell? ⟨w.heap.size,0,none⟩=some (.slice oa B.ob.length ocp):=(HBR.out.cell (p:=⟨w.heap.size,0,none⟩) HXL.out).trans HC0.out;clear hb ho
  by_cases hkl:k<B.ob.length
  case neg=>
   obtain rfl:k=B.ob.length:=by omega
   have t1:decide ((B.ob.length:Int)<(B.ob.length:Int))=false:=decide_eq_false (by omega);have t1':decide (B.ob.length<B.ob.length)=false:=decide_eq_false (by omega);rw[List.take_length] at HOW ⊢
   go_wp2_with fail
   go_returns
   exact⟨la,lc,rfl,HOW.out.base (fun b hb=>Nat.le_trans HB.out.size (HOW.out.typ b hb).1),below_via HB.out HBR.out⟩
  case pos=>
  have t1:decide ((k:Int)<(B.ob.length:Int))=true:=decide_eq_true (by omega);have t1':decide (k<B.ob.length)=true:=decide_eq_true hkl
  obtain⟨x,hx⟩:∃x,B.ob[k]? =some x:=⟨_,List.getElem?_eq_getElem hkl⟩
  obtain⟨b,off,rfl,hlb,hc⟩:=HOF.out (by omega)
  have hrg:wr.rangeAt b (off+k*12) (oc x):=fun j u hu=>by rw[Nat.add_assoc];exact(HBR.out.cell (p:=⟨b,_,none⟩) hlb).trans (hc k x hx j u hu)
  have HRG:=Lib.hid hrg;have HXX:=Lib.hid hx;have i1:(0:Int)≤(k:Int):=by omega
  have i2:(k:Int)<(B.ob.length:Int):=by omega
  clear hc hrg hx;go_wp2_with (first|(refine wpList_load_mid rfl 83 _ rfl b (off+k*12) rfl (oc x) _ HRG.out Try.underlying83 rfl rfl ?_)|(refine wpList_store_o rfl x _ _ rfl rfl rfl (heap_alloc_new _ _) rfl ?_))
  intro w3 hw3;have hbx:=boxed_o hw3.out
  obtain⟨T,hT⟩:∃n,n=wr.heap.size:=⟨_,rfl⟩
  rw[←hT] at hbx ⊢
  have HZ:=Lib.hid hbx.2;replace HOW:=Lib.hid (HOW.out.below (hT▸hbx.1));replace HBR:=Lib.hid (below_via HBR.out (hT▸hbx.1));have z0:w3.cell? ⟨T,0,none⟩=some (.int .i64 x.id):=by rw[cell_of_row w3 T 0 _ 83 (0,0) HZ.out];rfl
  have zl:T<w3.heap.size:=Ro.lt HZ.out;have HHR:=Lib.hid (HH.out.below HBR.out);have hl1:w.heap.size+1<w3.heap.size:=HHR.out.lt;have d0:w3.cell? ⟨w.heap.size+1,0,none⟩=some (.int .i64 3):=HHR.out.cell 0;have d1:w3.cell? ⟨w.heap.size+1,1,none⟩=some (.int .i64 id):=HHR.out.cell 1;have d2:w3.cell? ⟨w.heap.size+1,2,none⟩=some (.int .i64 1):=HHR.out.cell 2;clear hw3 hbx hT i1 i2 hlb HRG c0 t1 t1'
  obtain⟨r,hr⟩:∃r,decide (x.id∈B.s1.fld)=r:=⟨_,rfl⟩
  have hl0:w.heap.size<w3.heap.size:=by omega
  have c1:w3.cell? ⟨w.heap.size,22,none⟩=some (.slice fa B.s1.fld.length fcp):=(HBR.out.cell (p:=⟨w.heap.size,22,none⟩) HXL.out).trans HC1.out;have HRR:Hid (abt B 3 id 1 x=r):=Lib.hid (by unfold abt Bd.seat;simpa using hr)
  have qc:(((B.s1.fld.count x.id:Nat):Int)==1)=r:=by
   have hnd:B.s1.fld.Nodup:=Plc.fld_nd HV.out.plc 1;rw[←hr,hnd.count]
   by_cases hm:x.id∈B.s1.fld<;>simp[hm]
  clear hr
  go_upto_region 10 with fail
  refine rg13_10 (w0:=w3) (B:=w3.heap.size) (n:=w3.heap.size) (L:=[]) (by kernel_rfl) rfl (by kernel_rfl) (.t ⟨by go_grown,by go_size,(by simp[go_sem]<;>omega)⟩) (fun w91 K_w91 E_w91 F_w91=> ?_);have _ne:Nonempty (KX (w3.heap.size) w3 (w3.heap.size) [] (fun _=>True)):=⟨⟨_,K_w91,E_w91⟩⟩
  repeat (go_big_quiet_step (fail))
  refine wpQuiet_nil ?_;have ra:=rck _ne d2 hl1;have rb:=rck _ne c1 hl0;have rc:=rck _ne z0 zl
  repeat (go_big_quiet_step (fail))
  refine wpQuiet_nil ?_
  repeat (go_big_quiet_step (fail))
  refine wpQuiet_nil ?_
  repeat (go_big_quiet_step (fail))
  refine wpQuiet_nil ?_;have KH_w91:=Lib.hid K_w91;have hw_w91:=K_w91.below;have hz_w91:=K_w91.size;clear K_w91;clear E_w91 F_w91
  refine⟨fun K hK0=> ?_,trivial⟩
  have hK:=Lib.hid hK0;clear hK0;go_wp2_with fail
  with_reducible refine(countI _ _ _ _ ((HF.out.below HBR.out).below KH_w91.out.below)).mono ?_
  rintro e w99 ⟨rfl,rfl⟩;go_wp2_with fail
  first|refine⟨rfl,?u,hK.out _ _ ?_⟩|refine⟨?u,hK.out _ _ ?_⟩
  case u=>exact⟨⟨_,KH_w91.out,trivial⟩,rfl⟩
  clear hK K
  repeat (go_big_quiet_step (fail))
  refine wpQuiet_nil ?_;clear ra rb rc;clear _ne;replace HOW:=Lib.hid (HOW.out.below KH_w91.out.below);replace HZ:Hid (w91.heap[T]? =some (.cells (oc x).toArray 83 (0,0))):=Lib.hid (Ro.below HZ.out KH_w91.out.below);replace HBR:=Lib.hid (below_via HBR.out KH_w91.out.below);replace HHR:=Lib.hid (HHR.out.below KH_w91.out.below);clear d0 d1 d2 c1 z0 zl hl0 hl1;have d0:w91.cell? ⟨w.heap.size+1,0,none⟩=some (.int .i64 3):=HHR.out.cell 0
  cases r
  case false=>
   have hno:hapK cs B 3 id 1 (B.ob.take (k+1))=hapK cs B 3 id 1 (B.ob.take k):=hapK_no HXX.out HRR.out;have HNO:=Lib.hid hno;clear hno;go_wp2_with fail
   go_roundw
   case rel=>exact⟨k+1,la,lc,by omega,by go_num,by rw[HNO.out],HBR.out,by rw[HNO.out];exact HOW.out⟩
   case measure=>simp[intOf];omega
  case true=>
   have hyes:hapK cs B 3 id 1 (B.ob.take (k+1))=hapK cs B 3 id 1 (B.ob.take k)++trO cs 3 x:=hapK_yes HXX.out HRR.out;have HYES:=Lib.hid hyes;have HLT:Hid ((trO cs 3 x).length≤2):=Lib.hid (trO_len cs 3 x);clear hyes
   go_upto_region 12 with fail
   go_wp2_with (refine wpList_load_o x _ rfl rfl HZ.out (by kernel_rfl) ?_)
   with_reducible refine(rofv v cs x 3 _ ((HCS.out.below HB.out).below HBR.out) HL.out).mono ?_
   rintro e w5 ⟨ma,mc,rfl,hm,hb⟩;replace HBR:=Lib.hid (below_via HBR.out hb);replace HOW:=Lib.hid (HOW.out.below hb);have HM:=Lib.hid (Rw.of_ow hm);clear hb hm HZ d0;go_wp2_with (at_builtin;refine wpList_append_ow (f:=itc) (sz:=5) rfl _ _ 30 rfl w1.heap.size 60 (.agg #[.int .i64 0,.int .i64 0,.int .i64 0,.int .i64 0,.slice none 0 0]) 56 Try.underlying30 infoX rfl (by decide) _ ((hapK cs B 3 id 1 (B.ob.take k)).map nilI) rfl HOW.out itc_ok _ ((trO cs 3 x).map nilI) rfl HM.out ?c2 ?c3 ?c4 ?_)
   case c2=>simp[maxLen];have:=HLK.out;have:=HLT.out;omega
   case c3=>simp;have:=HLK.out;have:=HLT.out;omega
   case c4=>exact HBR.out.size
   intro v8 w8 ho8 hg8 hv8
   obtain⟨va,vc,rfl⟩:=ho8.form
   have hb8:Below w1.heap.size w1 w8:=HBR.out.grown hg8 HBR.out.size (fun q hq=>(HOW.out.typ q hq).1);rw[←List.map_append,←HYES.out,List.length_map] at ho8
   rw[show((hapK cs B 3 id 1 (B.ob.take k)).map nilI++(trO cs 3 x).map nilI).length=(hapK cs B 3 id 1 (B.ob.take (k+1))).length by rw[←List.map_append,←HYES.out,List.length_map]];have HO8:=Lib.hid ho8;have HB8:=Lib.hid hb8;clear ho8 hg8 hv8 hb8;go_wp2_with fail
   go_roundw
   case rel=>exact⟨k+1,va,vc,by omega,by go_num,rfl,HB8.out,HO8.out⟩
   case measure=>simp[intOf];omega
set_option maxRecDepth 100000 in
set_option maxHeartbeats 4000000 in
theorem rhof_no3(v:Value)(cs:List (Cd×List (Int×Nat)))(s:Bs)(B:Bd)(id pl:Int)(w:World)(hc:CsR w v cs)(hl:Lt cs)(h:BdR w s B)(hi:B.I)(hsm:B.Sm)(hv:VB B)(h3:pl≠0∧pl≠1):Calls Try.prog 13 #[v,bv s B,.agg #[.int .i64 3,.int .i64 id,.int .i64 pl]] w (OfA w (hapK cs B 3 id pl B.ob)):=by
 have p1:(pl==0)=false:=by simpa using h3.1
 have p2:(pl==1)=false:=by simpa using h3.2
 have HNA:Hid (∀x,abt B 3 id pl x=false):=Lib.hid (fun x=>by unfold abt;simp;omega);clear h3;have HCS:=Lib.hid hc;have HL:=Lib.hid hl;have HR:=Lib.hid h;have HI:=Lib.hid hi;have HSM:=Lib.hid hsm;have HV:=Lib.hid hv;clear hc hl h hi hsm hv;go_enter Try.func13,Try.ntmps13
 go_upto_region 1 with fail
 obtain⟨wz,hwz⟩:∃W,W=((w.alloc (.cells (bcells s B) 34)).alloc (.cells #[.int .i64 3,.int .i64 id,.int .i64 pl] 37)):=⟨_,rfl⟩
 change Code.wp Try.prog _ _ _ ((w.alloc (.cells (bcells s B) 34)).alloc (.cells #[.int .i64 3,.int .i64 id,.int .i64 pl] 37));rw[←hwz];have b1:Below w.heap.size w (w.alloc (.cells (bcells s B) 34)):=(Below.refl _ _).alloc (Nat.le_refl _) _;have b2:Below (w.alloc (.cells (bcells s B) 34)).heap.size (w.alloc (.cells (bcells s B) 34)) wz:=by rw[hwz];exact(Below.refl _ _).alloc (Nat.le_refl _) _
 have HB:Hid (Below w.heap.size w wz):=Lib.hid (below_via b1 b2);have HX:Hid (Bx wz w.heap.size s B):=Lib.hid (Bx.below (w:=(w.alloc (.cells (bcells s B) 34))) (heap_alloc_new _ _) b2);have HH:Hid (Ro wz (w.heap.size+1) #[.int .i64 3,.int .i64 id,.int .i64 pl] 37):=Lib.hid (by rw[hwz,show w.heap.size+1=(w.alloc (.cells (bcells s B) 34)).heap.size by simp];exact Ro.new _ _ _);clear hwz b1 b2;go_wp2_with (refine wpList_load_bx _ rfl rfl HX.out (by kernel_rfl) ?_)
 with_reducible refine(brvalid s B _ (HR.out.below HB.out) HI.out HSM.out).mono ?_
 rintro e w1 ⟨⟨r,rfl,hr⟩,hb⟩;replace HB:=Lib.hid (below_via HB.out hb);replace HX:=Lib.hid (HX.out.below hb);replace HH:=Lib.hid (HH.out.below hb);obtain rfl:r=true:=hr.2 HV.out;clear hb hr
 obtain⟨_,oa,ocp,hov,hof⟩:=(HR.out.ob.below HB.out).form
 have c0:w1.cell? ⟨w.heap.size,0,none⟩=some (.slice oa B.ob.length ocp):=by rw[←hov];exact HX.out.cell 0
 have HC0:=Lib.hid c0;have HOF:=Lib.hid hof;have HN:Hid (B.ob.length≤500):=Lib.hid (by have h:=HV.out.num;unfold vNum at h;exact h.2.2.2.2.2.1);have hn5:B.ob.length≤500:=HN.out;have HXL:Hid (w.heap.size<w1.heap.size):=Lib.hid HX.out.lt;clear hov hof;go_wp2_with fail
 clear c0
 go_loopw [7,8] (fun lv i wr=>HpL w1 cs B 3 id pl lv i wr) (fun _ i _=>B.ob.length-(intOf i).toNat)
 case atStart=>exact⟨0,none,0,by omega,rfl,rfl,Below.refl _ _,Ow.nil _ _ _⟩
 case round=>
  obtain⟨k,la,lc,hk,rfl,rfl,hb,ho⟩:=hrel
  have HBR:=Lib.hid hb;have HOW:=Lib.hid ho;have HLK:Hid ((hapK cs B 3 id pl (B.ob.take k)).length≤1000):=Lib.hid (by have h:=hapK_len cs B 3 id pl (B.ob.take k);rw[List.length_take] at h;omega);have c0:wr.cell? ⟨w.heap.size,0,none⟩=some (.slice oa B.ob.length ocp):=(HBR.out.cell (p:=⟨w.heap.size,0,none⟩) HXL.out).trans HC0.out;clear hb ho
  by_cases hkl:k<B.ob.length
  case neg=>
   obtain rfl:k=B.ob.length:=by omega
   have t1:decide ((B.ob.length:Int)<(B.ob.length:Int))=false:=decide_eq_false (by omega);have t1':decide (B.ob.length<B.ob.length)=false:=decide_eq_false (by omega);rw[List.take_length] at HOW ⊢
   go_wp2_with fail
   go_returns
   exact⟨la,lc,rfl,HOW.out.base (fun b hb=>Nat.le_trans HB.out.size (HOW.out.typ b hb).1),below_via HB.out HBR.out⟩
  case pos=>
  have t1:decide ((k:Int)<(B.ob.length:Int))=true:=decide_eq_true (by omega);have t1':decide (k<B.ob.length)=true:=decide_eq_true hkl
  obtain⟨x,hx⟩:∃x,B.ob[k]? =some x:=⟨_,List.getElem?_eq_getElem hkl⟩
  obtain⟨b,off,rfl,hlb,hc⟩:=HOF.out (by omega)
  have hrg:wr.rangeAt b (off+k*12) (oc x):=fun j u hu=>by rw[Nat.add_assoc];exact(HBR.out.cell (p:=⟨b,_,none⟩) hlb).trans (hc k x hx j u hu)
  have HRG:=Lib.hid hrg;have HXX:=Lib.hid hx;have i1:(0:Int)≤(k:Int):=by omega
  have i2:(k:Int)<(B.ob.length:Int):=by omega
  clear hc hrg hx;go_wp2_with (first|(refine wpList_load_mid rfl 83 _ rfl b (off+k*12) rfl (oc x) _ HRG.out Try.underlying83 rfl rfl ?_)|(refine wpList_store_o rfl x _ _ rfl rfl rfl (heap_alloc_new _ _) rfl ?_))
  intro w3 hw3;have hbx:=boxed_o hw3.out
  obtain⟨T,hT⟩:∃n,n=wr.heap.size:=⟨_,rfl⟩
  rw[←hT] at hbx ⊢
  have HZ:=Lib.hid hbx.2;replace HOW:=Lib.hid (HOW.out.below (hT▸hbx.1));replace HBR:=Lib.hid (below_via HBR.out (hT▸hbx.1));have z0:w3.cell? ⟨T,0,none⟩=some (.int .i64 x.id):=by rw[cell_of_row w3 T 0 _ 83 (0,0) HZ.out];rfl
  have zl:T<w3.heap.size:=Ro.lt HZ.out;have HHR:=Lib.hid (HH.out.below HBR.out);have hl1:w.heap.size+1<w3.heap.size:=HHR.out.lt;have d0:w3.cell? ⟨w.heap.size+1,0,none⟩=some (.int .i64 3):=HHR.out.cell 0;have d1:w3.cell? ⟨w.heap.size+1,1,none⟩=some (.int .i64 id):=HHR.out.cell 1;have d2:w3.cell? ⟨w.heap.size+1,2,none⟩=some (.int .i64 pl):=HHR.out.cell 2;clear hw3 hbx hT i1 i2 hlb HRG c0 t1 t1';have hno:hapK cs B 3 id pl (B.ob.take (k+1))=hapK cs B 3 id pl (B.ob.take k):=hapK_no HXX.out (HNA.out x);have HNO:=Lib.hid hno;clear hno;go_wp2_with fail
  go_roundw
  case rel=>exact⟨k+1,la,lc,by omega,by go_num,by rw[HNO.out],HBR.out,by rw[HNO.out];exact HOW.out⟩
  case measure=>simp[intOf];omega
set_option maxRecDepth 100000 in
set_option maxHeartbeats 4000000 in
theorem rhof_no(v:Value)(cs:List (Cd×List (Int×Nat)))(s:Bs)(B:Bd)(wh id pl:Int)(w:World)(hc:CsR w v cs)(hl:Lt cs)(h:BdR w s B)(hi:B.I)(hsm:B.Sm)(hv:VB B)(h1:wh≠1)(h2:wh≠2)(h3:wh≠3):Calls Try.prog 13 #[v,bv s B,.agg #[.int .i64 wh,.int .i64 id,.int .i64 pl]] w (OfA w (hapK cs B wh id pl B.ob)):=by
 have q1:(wh==1)=false:=by simpa using h1
 have q2:(wh==2)=false:=by simpa using h2
 have q3:(wh==3)=false:=by simpa using h3
 have HNA:Hid (∀x,abt B wh id pl x=false):=Lib.hid (fun x=>by unfold abt;rw[if_neg h3];simp;omega);clear h1 h2 h3;have HCS:=Lib.hid hc;have HL:=Lib.hid hl;have HR:=Lib.hid h;have HI:=Lib.hid hi;have HSM:=Lib.hid hsm;have HV:=Lib.hid hv;clear hc hl h hi hsm hv;go_enter Try.func13,Try.ntmps13
 go_upto_region 1 with fail
 obtain⟨wz,hwz⟩:∃W,W=((w.alloc (.cells (bcells s B) 34)).alloc (.cells #[.int .i64 wh,.int .i64 id,.int .i64 pl] 37)):=⟨_,rfl⟩
 change Code.wp Try.prog _ _ _ ((w.alloc (.cells (bcells s B) 34)).alloc (.cells #[.int .i64 wh,.int .i64 id,.int .i64 pl] 37));rw[←hwz];have b1:Below w.heap.size w (w.alloc (.cells (bcells s B) 34)):=(Below.refl _ _).alloc (Nat.le_refl _) _;have b2:Below (w.alloc (.cells (bcells s B) 34)).heap.size (w.alloc (.cells (bcells s B) 34)) wz:=by rw[hwz];exact(Below.refl _ _).alloc (Nat.le_refl _) _
 have HB:Hid (Below w.heap.size w wz):=Lib.hid (below_via b1 b2);have HX:Hid (Bx wz w.heap.size s B):=Lib.hid (Bx.below (w:=(w.alloc (.cells (bcells s B) 34))) (heap_alloc_new _ _) b2);have HH:Hid (Ro wz (w.heap.size+1) #[.int .i64 wh,.int .i64 id,.int .i64 pl] 37):=Lib.hid (by rw[hwz,show w.heap.size+1=(w.alloc (.cells (bcells s B) 34)).heap.size by simp];exact Ro.new _ _ _);clear hwz b1 b2;go_wp2_with (refine wpList_load_bx _ rfl rfl HX.out (by kernel_rfl) ?_)
 with_reducible refine(brvalid s B _ (HR.out.below HB.out) HI.out HSM.out).mono ?_
 rintro e w1 ⟨⟨r,rfl,hr⟩,hb⟩;replace HB:=Lib.hid (below_via HB.out hb);replace HX:=Lib.hid (HX.out.below hb);replace HH:=Lib.hid (HH.out.below hb);obtain rfl:r=true:=hr.2 HV.out;clear hb hr
 obtain⟨_,oa,ocp,hov,hof⟩:=(HR.out.ob.below HB.out).form
 have c0:w1.cell? ⟨w.heap.size,0,none⟩=some (.slice oa B.ob.length ocp):=by rw[←hov];exact HX.out.cell 0
 have HC0:=Lib.hid c0;have HOF:=Lib.hid hof;have HN:Hid (B.ob.length≤500):=Lib.hid (by have h:=HV.out.num;unfold vNum at h;exact h.2.2.2.2.2.1);have hn5:B.ob.length≤500:=HN.out;have HXL:Hid (w.heap.size<w1.heap.size):=Lib.hid HX.out.lt;clear hov hof;go_wp2_with fail
 clear c0
 go_loopw [7,8] (fun lv i wr=>HpL w1 cs B wh id pl lv i wr) (fun _ i _=>B.ob.length-(intOf i).toNat)
 case atStart=>exact⟨0,none,0,by omega,rfl,rfl,Below.refl _ _,Ow.nil _ _ _⟩
 case round=>
  obtain⟨k,la,lc,hk,rfl,rfl,hb,ho⟩:=hrel
  have HBR:=Lib.hid hb;have HOW:=Lib.hid ho;have HLK:Hid ((hapK cs B wh id pl (B.ob.take k)).length≤1000):=Lib.hid (by have h:=hapK_len cs B wh id pl (B.ob.take k);rw[List.length_take] at h;omega);have c0:wr.cell? ⟨w.heap.size,0,none⟩=some (.slice oa B.ob.length ocp):=(HBR.out.cell (p:=⟨w.heap.size,0,none⟩) HXL.out).trans HC0.out;clear hb ho
  by_cases hkl:k<B.ob.length
  case neg=>
   obtain rfl:k=B.ob.length:=by omega
   have t1:decide ((B.ob.length:Int)<(B.ob.length:Int))=false:=decide_eq_false (by omega);have t1':decide (B.ob.length<B.ob.length)=false:=decide_eq_false (by omega);rw[List.take_length] at HOW ⊢
   go_wp2_with fail
   go_returns
   exact⟨la,lc,rfl,HOW.out.base (fun b hb=>Nat.le_trans HB.out.size (HOW.out.typ b hb).1),below_via HB.out HBR.out⟩
  case pos=>
  have t1:decide ((k:Int)<(B.ob.length:Int))=true:=decide_eq_true (by omega);have t1':decide (k<B.ob.length)=true:=decide_eq_true hkl
  obtain⟨x,hx⟩:∃x,B.ob[k]? =some x:=⟨_,List.getElem?_eq_getElem hkl⟩
  obtain⟨b,off,rfl,hlb,hc⟩:=HOF.out (by omega)
  have hrg:wr.rangeAt b (off+k*12) (oc x):=fun j u hu=>by rw[Nat.add_assoc];exact(HBR.out.cell (p:=⟨b,_,none⟩) hlb).trans (hc k x hx j u hu)
  have HRG:=Lib.hid hrg;have HXX:=Lib.hid hx;have i1:(0:Int)≤(k:Int):=by omega
  have i2:(k:Int)<(B.ob.length:Int):=by omega
  clear hc hrg hx;go_wp2_with (first|(refine wpList_load_mid rfl 83 _ rfl b (off+k*12) rfl (oc x) _ HRG.out Try.underlying83 rfl rfl ?_)|(refine wpList_store_o rfl x _ _ rfl rfl rfl (heap_alloc_new _ _) rfl ?_))
  intro w3 hw3;have hbx:=boxed_o hw3.out
  obtain⟨T,hT⟩:∃n,n=wr.heap.size:=⟨_,rfl⟩
  rw[←hT] at hbx ⊢
  have HZ:=Lib.hid hbx.2;replace HOW:=Lib.hid (HOW.out.below (hT▸hbx.1));replace HBR:=Lib.hid (below_via HBR.out (hT▸hbx.1));have z0:w3.cell? ⟨T,0,none⟩=some (.int .i64 x.id):=by rw[cell_of_row w3 T 0 _ 83 (0,0) HZ.out];rfl
  have zl:T<w3.heap.size:=Ro.lt HZ.out;have HHR:=Lib.hid (HH.out.below HBR.out);have hl1:w.heap.size+1<w3.heap.size:=HHR.out.lt;have d0:w3.cell? ⟨w.heap.size+1,0,none⟩=some (.int .i64 wh):=HHR.out.cell 0;have d1:w3.cell? ⟨w.heap.size+1,1,none⟩=some (.int .i64 id):=HHR.out.cell 1;have d2:w3.cell? ⟨w.heap.size+1,2,none⟩=some (.int .i64 pl):=HHR.out.cell 2;clear hw3 hbx hT i1 i2 hlb HRG c0 t1 t1';have hno:hapK cs B wh id pl (B.ob.take (k+1))=hapK cs B wh id pl (B.ob.take k):=hapK_no HXX.out (HNA.out x);have HNO:=Lib.hid hno;clear hno;go_wp2_with fail
  go_roundw
  case rel=>exact⟨k+1,la,lc,by omega,by go_num,by rw[HNO.out],HBR.out,by rw[HNO.out];exact HOW.out⟩
  case measure=>simp[intOf];omega
theorem rhof(v:Value)(cs:List (Cd×List (Int×Nat)))(s:Bs)(B:Bd)(wh id pl:Int)(w:World)(hc:CsR w v cs)(hl:Lt cs)(h:BdR w s B)(hi:B.I)(hsm:B.Sm)(hv:VB B):Calls Try.prog 13 #[v,bv s B,.agg #[.int .i64 wh,.int .i64 id,.int .i64 pl]] w (OfA w (hapK cs B wh id pl B.ob)):=by
 by_cases h1:wh=1
 ·subst h1;exact rhof_one1 v cs s B id pl w hc hl h hi hsm hv
 by_cases h2:wh=2
 ·subst h2;exact rhof_one2 v cs s B id pl w hc hl h hi hsm hv
 by_cases h3:wh=3
 ·subst h3
  by_cases p0:pl=0
  ·subst p0;exact rhof_up0 v cs s B id w hc hl h hi hsm hv
  by_cases p1:pl=1
  ·subst p1;exact rhof_up1 v cs s B id w hc hl h hi hsm hv
  exact rhof_no3 v cs s B id pl w hc hl h hi hsm hv ⟨p0,p1⟩
 ·exact rhof_no v cs s B wh id pl w hc hl h hi hsm hv h1 h2 h3
end Go.Proofs.Ytgkgbpapfjjkcaa
