/- The objects that a function picks, by the code. What must die, and what must go, by the code. -/
import Derived.Test.YtpbepnpnpopmfaaGreatTOg
import Derived.Test.YtpbepnpnpopmfaaGreatTPu
import Derived.Deep.DeepCutAuto
import Derived.LoopTactic
import Derived.Deep.MidRow
import Derived.Test.YtpbepnpnpopmfaaGreatUDd
open Go.RowKit Go.Proofs.YtpbepnpnpopmfaaGreat
set_option maxRecDepth 100000
set_option maxHeartbeats 4000000
namespace Go.Proofs.YtpbepnpnpopmfaaGreat
open Plain
set_option linter.unusedVariables false
set_option linter.unusedSimpArgs false

theorem rg68_5{P:Program}{B n:Nat}{w0:World}{L:List (Nat×Nat×Value)}{E F:World->Prop}{id:Nat}{Q:Exit->Act->World->Prop}{a:Act}{w:World}{A:Array Oper}{o0 o1 o2 o3 o4 o5 o6 o7 o8 o9 o10 o11:Oper}(hm:P.follows .mixedOrders=true)(hA:A=[o0,o1,o2,o3,o4,o5,o6,o7,o8,o9,o10,o11].toArray)(hB:regOk A [1,3,7,9] [0,2,4,5,6,8] (.fs [0,2,4,8] (.rs [1,3] (.fs [5,6] (.rs [7,9] (.alt 10 (.altc 11 .done .stop) .stop)))))=true)(c:RC B w0 n L E F w)
  (h:∀wk,Kept B w0 n L wk->E wk->F wk->wpQuiet P A (fun _=>True) (fun a0=>wpQuiet P A (fun w' =>∃s:KX B w0 n L E,w' =s.val) (fun a1=>wpQuiet P A (fun _=>True) (fun a2=>wpQuiet P A (fun w' =>∃s:KX B w0 n L E,w' =s.val) (fun a3=>((∀K4:Act->World->Prop,(∀a4 w4,((∀K5:Act->World->Prop,(∀a5 w5,Q .normal a5 w5->K5 a5 w5)->wpList P A (fun e a5 w5=>e= .normal/\K5 a5 w5) [o11] a4 w4)/\True)->K4 a4 w4)->wpList P A (fun e a4 w4=>e= .normal/\(∃s:KX B w0 n L E,w4=s.val)/\K4 a4 w4) [o10] a3 wk)/\True)) [o7,o9] a2) [o5,o6] a1) [o1,o3] a0) [o0,o2,o4,o8] a):(Code.region id A true).wp P Q a w:=by
 subst hA;exact wp_reg _ _ _ hm hB c (fun wk k e f=>have g:=h wk k e f;Scr.of_fs _ _ rfl g fun _ g=>Scr.of_rs _ _ rfl g fun _ g=>Scr.of_fs _ _ rfl g fun _ g=>Scr.of_rs _ _ rfl g fun _ g=>(Scr.of_alt rfl (g.1 _ fun _ _ g=>g) (fun _ _ g=>(Scr.of_altc rfl (g.1 _ fun _ _ g=>g) (fun _ _ g=>g) trivial)) trivial))
def Plain.onF(B:Bd)(x:Ob):Bool:=decide (x.id∈(B.seat x.ow.toNat).fld)
def Plain.pkL(B:Bd)(p:Ob->Bool)(l:List Ob):List Int:=(l.filter p).map Ob.id
theorem pkL_next{B:Bd}{p:Ob->Bool}{l:List Ob}{k:Nat}{x:Ob}(hx:l[k]? =some x):pkL B p (l.take (k+1))=pkL B p (l.take k)++if p x then [x.id] else []:=by
 unfold pkL;rw[List.take_add_one,hx,List.filter_append,List.map_append]
 congr 1
 cases h:p x<;>simp[h]
theorem pkL_len{B:Bd}{p:Ob->Bool}(l:List Ob):(pkL B p l).length<=l.length:=by
 unfold pkL;rw[List.length_map];exact List.length_filter_le _ _
def PkL(W:World)(B:Bd)(p:Ob->Bool)(lv i:Value)(wr:World):Prop:=∃(k:Nat) (a:Option Addr) (c:Nat),k<=B.ob.length/\i= .int .i64 k/\lv= .slice a (pkL B p (B.ob.take k)).length c/\Below W.heap.size W wr/\Ow ic 1 3 wr W.heap.size (.slice a (pkL B p (B.ob.take k)).length c) (pkL B p (B.ob.take k))
def PkA(w:World)(l:List Int)(e:Ending)(w':World):Prop:=∃a c,e= .returned (.slice a l.length c)/\Ow ic 1 3 w' w.heap.size (.slice a l.length c) l/\Below w.heap.size w w'
theorem bpick(q:Nat)(hcf:∀args w,(callFunc q args).run Tryz.prog w= .ok (.enter q args) w)(cv:Value)(p:Ob->Bool)(s:Bs)(B:Bd)(w:World)(h:BdR w s B)(hv:VB B)(hq:∀W x,x∈B.ob->Below w.heap.size w W->Calls Tryz.prog q #[.agg (oc x).toArray,.bool (onF B x),cv] W fun e w' =>e= .returned (.bool (p x))/\Below W.heap.size W w'):Calls Tryz.prog 68 #[bv s B,.func (.func q) #[] #[cv]] w (PkA w (pkL B p B.ob)):=by
 have HR:=Hd h;have HV:=Hd hv;have HQ:=Hd hq;have HOB:Hid (B.ob.length<=500):=Hd (by have h:=hv.num;unfold vNum at h;exact h.2.2.2.2.2.1);clear h hv hq;go_enter Tryz.func68,Tryz.ntmps68
 go_upto_region 1 with fail
 change Code.wp Tryz.prog _ _ _ (w.alloc (.cells (bcells s B) 34))
 obtain⟨wz,hwz⟩:∃W,W=(w.alloc (.cells (bcells s B) 34)):=⟨_,rfl⟩
 rw[<-hwz];have b0:Below w.heap.size w wz:=by rw[hwz];exact(Below.refl _ _).alloc (Nat.le_refl _) _
 have HB:Hid (Below w.heap.size w wz):=Hd b0;have HXb:Hid (Bx wz (w.heap.size) s B):=Hd (by rw[hwz];exact(Ro.new w (bcells s B) 34));have HC1:Hid (w.heap.size+1<=wz.heap.size):=Hd (by rw[hwz];simp);clear hwz b0
 obtain⟨_,oa,ocp,hov,hof⟩:=(HR.o.ob.below HB.o).form
 have c0:wz.cell? ⟨w.heap.size,0,none⟩=some (.slice oa B.ob.length ocp):=by rw[<-hov];exact HXb.o.cell 0
 have HOF:=Hd hof;have hn5:B.ob.length<=500:=HOB.o;clear hov hof;go_wp2_with fail
 clear c0
 go_loopw [5,11] (fun lv i wr=>PkL wz B p lv i wr) (fun _ i _=>B.ob.length-(intOf i).toNat)
 case atStart=>exact⟨0,none,0,by omega,rfl,rfl,Below.refl _ _,Ow.nil _ _ _⟩
 obtain⟨k,la,lc,hk,rfl,rfl,hb,ho⟩:=hrel
 have HBR:=Hd hb;have HOW:=Hd ho;have HLK:Hid ((pkL B p (B.ob.take k)).length<=1000):=Hd (by have h:=pkL_len (B:=B) (p:=p) (B.ob.take k);rw[List.length_take] at h;omega);clear hb ho
 by_cases hkl:k<B.ob.length
 case neg=>
  obtain rfl:k=B.ob.length:=by omega
  rw[List.take_length] at HOW ⊢
  go_wp2_with fail
  go_returns
  exact⟨la,lc,rfl,HOW.o.base (fun b hb=>Nat.le_trans HB.o.size (HOW.o.typ b hb).1),below_via HB.o HBR.o⟩
 case pos=>
 obtain⟨x,hx⟩:∃x,B.ob[k]? =some x:=⟨_,List.getElem?_eq_getElem hkl⟩
 obtain⟨b,off,rfl,hlb,hc⟩:=HOF.o (by omega)
 have hrg:wr.rangeAt b (off+k*12) (oc x):=fun j u hu=>by rw[Nat.add_assoc];exact(HBR.o.cell (p:=⟨b,_,none⟩) hlb).trans (hc k x hx j u hu)
 have HRG:=Hd hrg;have HXX:=Hd hx;have i1:(0:Int)<=(k:Int):=by omega
 have i2:(k:Int)<(B.ob.length:Int):=by omega
 have hvx:=(HV.o.plc.ob k x hx).1
 obtain⟨pw,hpw,hp2⟩:∃pw:Nat,x.ow=(pw:Nat)/\pw<2:=by
  unfold vO at hvx
  have h1:=(of_decide_eq_true hvx)
  refine⟨x.ow.toNat,?_,?_⟩<;>omega
 have HPW:=Hd hpw;clear hc hrg hx hvx hpw;go_wp2_with (first|(refine wpList_load_mid rfl 47 _ rfl b (off+k*12) rfl (oc x) _ HRG.o Tryz.underlying47 rfl rfl ?_)|(refine wpList_store_o rfl x _ _ rfl rfl rfl (heap_alloc_new _ _) rfl ?_))
 intro w3 hw3;have hbx:=boxed_o hw3.out
 obtain⟨T,hT⟩:∃n,n=wr.heap.size:=⟨_,rfl⟩
 rw[<-hT] at hbx ⊢
 have HZ:Hid (Ro w3 T (oc x).toArray 47):=Hd hbx.2;replace HOW:=Hd (HOW.o.below (hT▸hbx.1));replace HBR:=Hd (below_via HBR.o (hT▸hbx.1));have z0:w3.cell? ⟨T,0,none⟩=some (.int .i64 x.id):=Ro.cell HZ.o 0
 have z2:w3.cell? ⟨T,2,none⟩=some (.int .i64 (pw:Nat)):=by
  have h1:=Ro.cell HZ.o 2;rw[h1,<-HPW.o]
  rfl
 have hTl:T<w3.heap.size:=Ro.lt HZ.o;have hBl:w.heap.size<w3.heap.size:=(HXb.o.below HBR.o).lt
 obtain⟨_,fa,fcp,hfv,_⟩:=((HR.o.zone pw 2).below HB.o).form
 have hF:((B.seat pw).zs 2)=(B.seat pw).fld:=rfl
 have c7:w3.cell? ⟨w.heap.size,1+pw*14+7,none⟩=some (.slice fa (B.seat pw).fld.length fcp):=by
  rw[show 1+pw*14+7=1+pw*14+5+2 by omega]
  exact((HXb.o.below HBR.o).zone (p:=pw) (z:=2) hp2 (by omega)).trans (congrArg some hfv)
 have HF:Hid (Rw ic 1 wz (.slice fa (B.seat pw).fld.length fcp) (B.seat pw).fld):=Hd (by
  have h1:=(HR.o.zone pw 2).below HB.o;rw[hfv] at h1
  exact h1)
 have HOF2:Hid (onF B x=decide (x.id∈(B.seat pw).fld)):=Hd (by unfold onF;rw[HPW.o];rfl);have j1:(0:Int)<=(pw:Int):=by omega
 have j2:(pw:Int)<2:=by omega
 clear hw3 hbx hT i1 i2 hlb HRG hfv hF
 obtain⟨r,hr⟩:∃r,p x=r:=⟨_,rfl⟩
 have HRR:=Hd hr;clear hr
 go_upto_region 5 with fail
 refine rg68_5 (w0:=w3) (B:=w3.heap.size) (n:=w3.heap.size) (L:=[]) (by kernel_rfl) rfl (by kernel_rfl) (.t ⟨by go_grown,by go_size,(by simp[go_sem]<;>omega)⟩) (fun w91 K_w91 E_w91 F_w91=> ?_);have _ne:Nonempty (KX (w3.heap.size) w3 (w3.heap.size) [] (fun _=>True)):=⟨⟨_,K_w91,E_w91⟩⟩;have qo0:∀W',(∃s':KX (w3.heap.size) w3 (w3.heap.size) [] (fun _=>True),W' =s'.val)->W'.heap[T]? =some (.cells (oc x).toArray 47 (0,0)):=by rintro _ ⟨s',rfl⟩;exact Ro.below HZ.o s'.kept.below
 repeat (first|(go_big_quiet_want;(first|apply quiet_load_o _ _ rfl rfl qo0);(focus(simp[go_sem];rfl));go_big_quiet_on)|go_big_quiet_step (fail))
 refine wpQuiet_nil ?_;have ra:=rck _ne z0 hTl;have rb:=rck _ne z2 hTl;have rc:=rck _ne c7 hBl
 repeat (first|(go_big_quiet_want;(first|apply quiet_load_o _ _ rfl rfl qo0);(focus(simp[go_sem];rfl));go_big_quiet_on)|go_big_quiet_step (fail))
 refine wpQuiet_nil ?_
 repeat (first|(go_big_quiet_want;(first|apply quiet_load_o _ _ rfl rfl qo0);(focus(simp[go_sem];rfl));go_big_quiet_on)|go_big_quiet_step (fail))
 refine wpQuiet_nil ?_
 repeat (first|(go_big_quiet_want;(first|apply quiet_load_o _ _ rfl rfl qo0);(focus(simp[go_sem];rfl));go_big_quiet_on)|go_big_quiet_step (fail))
 refine wpQuiet_nil ?_;have KH_w91:=Hd K_w91;have hw_w91:=K_w91.below;have hz_w91:=K_w91.size;clear K_w91;clear E_w91 F_w91
 refine⟨fun K hK0=> ?_,trivial⟩
 have hK:=Hd hK0;clear hK0;go_wp2_with fail
 with_reducible refine(containsI _ (B.seat pw).fld x.id (onF B x) _ (HF.o.below (below_via HBR.o KH_w91.o.below)) HOF2.o.symm).mono ?_
 rintro e w4 ⟨rfl,hb⟩;have HW:Hid (Below w3.heap.size w3 w4):=Hd (below_via KH_w91.o.below hb);clear hb;go_wp2_with fail
 first|refine⟨rfl,?u,hK.o _ _ ?_⟩|refine⟨?u,hK.o _ _ ?_⟩
 case u=>exact⟨⟨_,(⟨HW.o,HW.o.size,by simp⟩:Kept w3.heap.size w3 w3.heap.size [] w4),trivial⟩,rfl⟩
 clear hK K
 refine⟨fun K hK0=> ?_,trivial⟩
 have hK:=Hd hK0;clear hK0;go_wp2_with fail
 with_reducible refine(HQ.o w4 x (List.mem_of_getElem? HXX.o) (below_via HB.o (below_via HBR.o HW.o))).mono ?_
 rintro e w5 ⟨rfl,hb⟩;replace HW:Hid (Below w3.heap.size w3 w5):=Hd (below_via HW.o hb);rw[HRR.o];clear hb;go_wp2_with fail
 first|refine⟨rfl,hK.o _ _ ?_⟩|refine hK.o _ _ ?_
 clear hK K;clear ra rb rc;clear _ne qo0;replace HOW:=Hd (HOW.o.below HW.o);replace HBR:=Hd (below_via HBR.o HW.o);have z0:w5.cell? ⟨T,0,none⟩=some (.int .i64 x.id):=Ro.cell (Ro.below HZ.o HW.o) 0;clear z2 c7 hTl hBl HW HZ
 cases r
 case false=>
  have hno:pkL B p (B.ob.take (k+1))=pkL B p (B.ob.take k):=by rw[pkL_next HXX.o,HRR.o];simp
  have HNO:=Hd hno;clear hno z0;go_wp2_with fail
  go_roundw
  case rel=>exact⟨k+1,la,lc,by omega,by go_num,by rw[HNO.o],HBR.o,by rw[HNO.o];exact HOW.o⟩
  case measure=>simp[intOf];omega
 case true=>
  have hyes:pkL B p (B.ob.take (k+1))=pkL B p (B.ob.take k)++[x.id]:=by rw[pkL_next HXX.o,HRR.o];simp
  have HYES:=Hd hyes;clear hyes;go_wp2_with (at_builtin;refine wpList_append_ow (f:=ic) (sz:=1) rfl _ _ 26 rfl wz.heap.size 3 _ 8 Tryz.underlying26 infoI rfl (by decide) _ (pkL B p (B.ob.take k)) rfl (HOW.o.below ((Below.refl _ _).alloc (Nat.le_refl _) _)) ic_ok _ [x.id] rfl (Rw.one2 (f:=ic) (sz:=1) _ 3 x.id #[.int .i64 x.id] rfl 1 _ rfl) ?c2 ?c3 ?c4 ?_)
  case c2=>have:=HLK.o;simp[maxLen];omega
  case c3=>have:=HLK.o;simp;omega
  case c4=>have:=HBR.o.size;simp;omega
  intro v8 w8 ho8 hg8 hv8
  obtain⟨va,vc,rfl⟩:=ho8.form
  have hb8:Below wz.heap.size wz w8:=(HBR.o.alloc HBR.o.size _).grown hg8 (by have:=HBR.o.size;simp;omega) (fun q hq=>(HOW.o.typ q hq).1);rw[<-HYES.o] at ho8 ⊢
  have HO8:=Hd ho8;have HB8:=Hd hb8;clear ho8 hg8 hv8 hb8 z0;go_wp2_with fail
  go_roundw
  case rel=>exact⟨k+1,va,vc,by omega,by go_num,rfl,HB8.o,HO8.o⟩
  case measure=>simp[intOf];omega
theorem bpick0(q:Nat)(hcf:∀args w,(callFunc q args).run Tryz.prog w= .ok (.enter q args) w)(p:Ob->Bool)(s:Bs)(B:Bd)(w:World)(h:BdR w s B)(hv:VB B)(hq:∀W x,x∈B.ob->Below w.heap.size w W->Calls Tryz.prog q #[.agg (oc x).toArray,.bool (onF B x)] W fun e w' =>e= .returned (.bool (p x))/\Below W.heap.size W w'):Calls Tryz.prog 68 #[bv s B,.func (.func q) #[] #[]] w (PkA w (pkL B p B.ob)):=by
 have HR:=Hd h;have HV:=Hd hv;have HQ:=Hd hq;have HOB:Hid (B.ob.length<=500):=Hd (by have h:=hv.num;unfold vNum at h;exact h.2.2.2.2.2.1);clear h hv hq;go_enter Tryz.func68,Tryz.ntmps68
 go_upto_region 1 with fail
 change Code.wp Tryz.prog _ _ _ (w.alloc (.cells (bcells s B) 34))
 obtain⟨wz,hwz⟩:∃W,W=(w.alloc (.cells (bcells s B) 34)):=⟨_,rfl⟩
 rw[<-hwz];have b0:Below w.heap.size w wz:=by rw[hwz];exact(Below.refl _ _).alloc (Nat.le_refl _) _
 have HB:Hid (Below w.heap.size w wz):=Hd b0;have HXb:Hid (Bx wz (w.heap.size) s B):=Hd (by rw[hwz];exact(Ro.new w (bcells s B) 34));have HC1:Hid (w.heap.size+1<=wz.heap.size):=Hd (by rw[hwz];simp);clear hwz b0
 obtain⟨_,oa,ocp,hov,hof⟩:=(HR.o.ob.below HB.o).form
 have c0:wz.cell? ⟨w.heap.size,0,none⟩=some (.slice oa B.ob.length ocp):=by rw[<-hov];exact HXb.o.cell 0
 have HOF:=Hd hof;have hn5:B.ob.length<=500:=HOB.o;clear hov hof;go_wp2_with fail
 clear c0
 go_loopw [5,11] (fun lv i wr=>PkL wz B p lv i wr) (fun _ i _=>B.ob.length-(intOf i).toNat)
 case atStart=>exact⟨0,none,0,by omega,rfl,rfl,Below.refl _ _,Ow.nil _ _ _⟩
 obtain⟨k,la,lc,hk,rfl,rfl,hb,ho⟩:=hrel
 have HBR:=Hd hb;have HOW:=Hd ho;have HLK:Hid ((pkL B p (B.ob.take k)).length<=1000):=Hd (by have h:=pkL_len (B:=B) (p:=p) (B.ob.take k);rw[List.length_take] at h;omega);clear hb ho
 by_cases hkl:k<B.ob.length
 case neg=>
  obtain rfl:k=B.ob.length:=by omega
  rw[List.take_length] at HOW ⊢
  go_wp2_with fail
  go_returns
  exact⟨la,lc,rfl,HOW.o.base (fun b hb=>Nat.le_trans HB.o.size (HOW.o.typ b hb).1),below_via HB.o HBR.o⟩
 case pos=>
 obtain⟨x,hx⟩:∃x,B.ob[k]? =some x:=⟨_,List.getElem?_eq_getElem hkl⟩
 obtain⟨b,off,rfl,hlb,hc⟩:=HOF.o (by omega)
 have hrg:wr.rangeAt b (off+k*12) (oc x):=fun j u hu=>by rw[Nat.add_assoc];exact(HBR.o.cell (p:=⟨b,_,none⟩) hlb).trans (hc k x hx j u hu)
 have HRG:=Hd hrg;have HXX:=Hd hx;have i1:(0:Int)<=(k:Int):=by omega
 have i2:(k:Int)<(B.ob.length:Int):=by omega
 have hvx:=(HV.o.plc.ob k x hx).1
 obtain⟨pw,hpw,hp2⟩:∃pw:Nat,x.ow=(pw:Nat)/\pw<2:=by
  unfold vO at hvx
  have h1:=(of_decide_eq_true hvx)
  refine⟨x.ow.toNat,?_,?_⟩<;>omega
 have HPW:=Hd hpw;clear hc hrg hx hvx hpw;go_wp2_with (first|(refine wpList_load_mid rfl 47 _ rfl b (off+k*12) rfl (oc x) _ HRG.o Tryz.underlying47 rfl rfl ?_)|(refine wpList_store_o rfl x _ _ rfl rfl rfl (heap_alloc_new _ _) rfl ?_))
 intro w3 hw3;have hbx:=boxed_o hw3.out
 obtain⟨T,hT⟩:∃n,n=wr.heap.size:=⟨_,rfl⟩
 rw[<-hT] at hbx ⊢
 have HZ:Hid (Ro w3 T (oc x).toArray 47):=Hd hbx.2;replace HOW:=Hd (HOW.o.below (hT▸hbx.1));replace HBR:=Hd (below_via HBR.o (hT▸hbx.1));have z0:w3.cell? ⟨T,0,none⟩=some (.int .i64 x.id):=Ro.cell HZ.o 0
 have z2:w3.cell? ⟨T,2,none⟩=some (.int .i64 (pw:Nat)):=by
  have h1:=Ro.cell HZ.o 2;rw[h1,<-HPW.o]
  rfl
 have hTl:T<w3.heap.size:=Ro.lt HZ.o;have hBl:w.heap.size<w3.heap.size:=(HXb.o.below HBR.o).lt
 obtain⟨_,fa,fcp,hfv,_⟩:=((HR.o.zone pw 2).below HB.o).form
 have hF:((B.seat pw).zs 2)=(B.seat pw).fld:=rfl
 have c7:w3.cell? ⟨w.heap.size,1+pw*14+7,none⟩=some (.slice fa (B.seat pw).fld.length fcp):=by
  rw[show 1+pw*14+7=1+pw*14+5+2 by omega]
  exact((HXb.o.below HBR.o).zone (p:=pw) (z:=2) hp2 (by omega)).trans (congrArg some hfv)
 have HF:Hid (Rw ic 1 wz (.slice fa (B.seat pw).fld.length fcp) (B.seat pw).fld):=Hd (by
  have h1:=(HR.o.zone pw 2).below HB.o;rw[hfv] at h1
  exact h1)
 have HOF2:Hid (onF B x=decide (x.id∈(B.seat pw).fld)):=Hd (by unfold onF;rw[HPW.o];rfl);have j1:(0:Int)<=(pw:Int):=by omega
 have j2:(pw:Int)<2:=by omega
 clear hw3 hbx hT i1 i2 hlb HRG hfv hF
 obtain⟨r,hr⟩:∃r,p x=r:=⟨_,rfl⟩
 have HRR:=Hd hr;clear hr
 go_upto_region 5 with fail
 refine rg68_5 (w0:=w3) (B:=w3.heap.size) (n:=w3.heap.size) (L:=[]) (by kernel_rfl) rfl (by kernel_rfl) (.t ⟨by go_grown,by go_size,(by simp[go_sem]<;>omega)⟩) (fun w91 K_w91 E_w91 F_w91=> ?_);have _ne:Nonempty (KX (w3.heap.size) w3 (w3.heap.size) [] (fun _=>True)):=⟨⟨_,K_w91,E_w91⟩⟩;have qo0:∀W',(∃s':KX (w3.heap.size) w3 (w3.heap.size) [] (fun _=>True),W' =s'.val)->W'.heap[T]? =some (.cells (oc x).toArray 47 (0,0)):=by rintro _ ⟨s',rfl⟩;exact Ro.below HZ.o s'.kept.below
 repeat (first|(go_big_quiet_want;(first|apply quiet_load_o _ _ rfl rfl qo0);(focus(simp[go_sem];rfl));go_big_quiet_on)|go_big_quiet_step (fail))
 refine wpQuiet_nil ?_;have ra:=rck _ne z0 hTl;have rb:=rck _ne z2 hTl;have rc:=rck _ne c7 hBl
 repeat (first|(go_big_quiet_want;(first|apply quiet_load_o _ _ rfl rfl qo0);(focus(simp[go_sem];rfl));go_big_quiet_on)|go_big_quiet_step (fail))
 refine wpQuiet_nil ?_
 repeat (first|(go_big_quiet_want;(first|apply quiet_load_o _ _ rfl rfl qo0);(focus(simp[go_sem];rfl));go_big_quiet_on)|go_big_quiet_step (fail))
 refine wpQuiet_nil ?_
 repeat (first|(go_big_quiet_want;(first|apply quiet_load_o _ _ rfl rfl qo0);(focus(simp[go_sem];rfl));go_big_quiet_on)|go_big_quiet_step (fail))
 refine wpQuiet_nil ?_;have KH_w91:=Hd K_w91;have hw_w91:=K_w91.below;have hz_w91:=K_w91.size;clear K_w91;clear E_w91 F_w91
 refine⟨fun K hK0=> ?_,trivial⟩
 have hK:=Hd hK0;clear hK0;go_wp2_with fail
 with_reducible refine(containsI _ (B.seat pw).fld x.id (onF B x) _ (HF.o.below (below_via HBR.o KH_w91.o.below)) HOF2.o.symm).mono ?_
 rintro e w4 ⟨rfl,hb⟩;have HW:Hid (Below w3.heap.size w3 w4):=Hd (below_via KH_w91.o.below hb);clear hb;go_wp2_with fail
 first|refine⟨rfl,?u,hK.o _ _ ?_⟩|refine⟨?u,hK.o _ _ ?_⟩
 case u=>exact⟨⟨_,(⟨HW.o,HW.o.size,by simp⟩:Kept w3.heap.size w3 w3.heap.size [] w4),trivial⟩,rfl⟩
 clear hK K
 refine⟨fun K hK0=> ?_,trivial⟩
 have hK:=Hd hK0;clear hK0;go_wp2_with fail
 with_reducible refine(HQ.o w4 x (List.mem_of_getElem? HXX.o) (below_via HB.o (below_via HBR.o HW.o))).mono ?_
 rintro e w5 ⟨rfl,hb⟩;replace HW:Hid (Below w3.heap.size w3 w5):=Hd (below_via HW.o hb);rw[HRR.o];clear hb;go_wp2_with fail
 first|refine⟨rfl,hK.o _ _ ?_⟩|refine hK.o _ _ ?_
 clear hK K;clear ra rb rc;clear _ne qo0;replace HOW:=Hd (HOW.o.below HW.o);replace HBR:=Hd (below_via HBR.o HW.o);have z0:w5.cell? ⟨T,0,none⟩=some (.int .i64 x.id):=Ro.cell (Ro.below HZ.o HW.o) 0;clear z2 c7 hTl hBl HW HZ
 cases r
 case false=>
  have hno:pkL B p (B.ob.take (k+1))=pkL B p (B.ob.take k):=by rw[pkL_next HXX.o,HRR.o];simp
  have HNO:=Hd hno;clear hno z0;go_wp2_with fail
  go_roundw
  case rel=>exact⟨k+1,la,lc,by omega,by go_num,by rw[HNO.o],HBR.o,by rw[HNO.o];exact HOW.o⟩
  case measure=>simp[intOf];omega
 case true=>
  have hyes:pkL B p (B.ob.take (k+1))=pkL B p (B.ob.take k)++[x.id]:=by rw[pkL_next HXX.o,HRR.o];simp
  have HYES:=Hd hyes;clear hyes;go_wp2_with (at_builtin;refine wpList_append_ow (f:=ic) (sz:=1) rfl _ _ 26 rfl wz.heap.size 3 _ 8 Tryz.underlying26 infoI rfl (by decide) _ (pkL B p (B.ob.take k)) rfl (HOW.o.below ((Below.refl _ _).alloc (Nat.le_refl _) _)) ic_ok _ [x.id] rfl (Rw.one2 (f:=ic) (sz:=1) _ 3 x.id #[.int .i64 x.id] rfl 1 _ rfl) ?c2 ?c3 ?c4 ?_)
  case c2=>have:=HLK.o;simp[maxLen];omega
  case c3=>have:=HLK.o;simp;omega
  case c4=>have:=HBR.o.size;simp;omega
  intro v8 w8 ho8 hg8 hv8
  obtain⟨va,vc,rfl⟩:=ho8.form
  have hb8:Below wz.heap.size wz w8:=(HBR.o.alloc HBR.o.size _).grown hg8 (by have:=HBR.o.size;simp;omega) (fun q hq=>(HOW.o.typ q hq).1);rw[<-HYES.o] at ho8 ⊢
  have HO8:=Hd ho8;have HB8:=Hd hb8;clear ho8 hg8 hv8 hb8 z0;go_wp2_with fail
  go_roundw
  case rel=>exact⟨k+1,va,vc,by omega,by go_num,rfl,HB8.o,HO8.o⟩
  case measure=>simp[intOf];omega
end Go.Proofs.YtpbepnpnpopmfaaGreat
namespace Go.Proofs.YtpbepnpnpopmfaaGreat
open Plain
set_option linter.unusedVariables false
set_option linter.unusedSimpArgs false

def Plain.dyB(cs:List Cd)(B:Bd)(x:Ob):Bool:=onF B x&&deB cs x
def Plain.dyL(cs:List Cd)(B:Bd):List Int:=pkL B (dyB cs B) B.ob
def Plain.goB(B:Bd)(x:Ob):Bool:=decide (x.cd<0)&& !(onF B x)
def Plain.goL(B:Bd):List Int:=pkL B (goB B) B.ob
theorem cfD1(args:Array Value)(w:World):(callFunc 69 args).run Tryz.prog w= .ok (.enter 69 args) w:=by kernel_rfl
theorem cfG1(args:Array Value)(w:World):(callFunc 71 args).run Tryz.prog w= .ok (.enter 71 args) w:=by kernel_rfl
theorem odeadv(v:Value)(cs:List Cd)(x:Ob)(w:World)(hs:CRow w v cs)(hc:CI cs)(ho:x.I):Calls Tryz.prog 70 #[v,.agg (oc x).toArray] w fun e w' =>e= .returned (.bool (deB cs x))/\Below w.heap.size w w':=odead v cs x w hs hc ho
theorem dy1(v:Value)(cs:List Cd)(x:Ob)(f:Bool)(P:Nat)(w:World)(hs:CRow w v cs)(hc:CI cs)(ho:x.I)(hp:Ro w P #[v] 22)(hv1:v.oneCell' =true):Calls Tryz.prog 69 #[.agg (oc x).toArray,.bool f,.pointer (some ⟨P,0,none⟩)] w fun e w' =>e= .returned (.bool (f&&deB cs x))/\Below w.heap.size w w':=by
 obtain⟨_,a,cap,rfl,_⟩:=hs.form
 have HS:=Hd hs;have HC:=Hd hc;have HO:=Hd ho;have HP:=Hd hp;clear hs hc ho hp;go_enter Tryz.func69,Tryz.ntmps69
 go_upto_region 1 with fail
 obtain⟨wz,hwz⟩:∃W,W=(w.alloc (.cells (oc x).toArray 47)):=⟨_,rfl⟩
 change Code.wp Tryz.prog _ _ _ (w.alloc (.cells (oc x).toArray 47));rw[<-hwz];have hb:Below w.heap.size w wz:=by rw[hwz];exact(Below.refl _ _).alloc (Nat.le_refl _) _
 have HX:Hid (Ro wz w.heap.size (oc x).toArray 47):=Hd (by rw[hwz];exact Ro.new _ _ _);have HB:=Hd hb;have d0:wz.cell? ⟨P,0,none⟩=some (.slice a cs.length cap):=(HP.o.below hb).cell 0;clear hwz hb
 cases f
 ·go_wp2_with fail
  go_returns
  exact⟨rfl,HB.o⟩
 go_wp2_with (refine wpList_load_o x _ rfl rfl HX.o (by kernel_rfl) ?_)
 with_reducible refine(odeadv _ cs x _ (HS.o.below HB.o) HC.o HO.o).mono ?_
 rintro e w1 ⟨rfl,hb⟩;replace HB:=Hd (below_via HB.o hb);clear hb d0;go_wp2_with fail
 go_returns
 exact⟨rfl,HB.o⟩
theorem go1(x:Ob)(f:Bool)(w:World):Calls Tryz.prog 71 #[.agg (oc x).toArray,.bool f] w fun e w' =>e= .returned (.bool (decide (x.cd<0)&& !f))/\Below w.heap.size w w':=by
 obtain⟨r,hr⟩:∃r,decide (x.cd<0)=r:=⟨_,rfl⟩
 rw[hr];go_enter Tryz.func71,Tryz.ntmps71
 go_upto_region 1 with fail
 obtain⟨wz,hwz⟩:∃W,W=(w.alloc (.cells (oc x).toArray 47)):=⟨_,rfl⟩
 change Code.wp Tryz.prog _ _ _ (w.alloc (.cells (oc x).toArray 47));rw[<-hwz];have hb:Below w.heap.size w wz:=by rw[hwz];exact(Below.refl _ _).alloc (Nat.le_refl _) _
 have hx:Ro wz w.heap.size (oc x).toArray 47:=by rw[hwz];exact Ro.new _ _ _
 have HB:=Hd hb;have d1:wz.cell? ⟨w.heap.size,1,none⟩=some (.int .i64 x.cd):=hx.cell 1;clear hwz hb hx
 cases r<;>cases f
 all_goals
  go_wp2_with fail
  go_returns
  exact⟨rfl,HB.o⟩
theorem bgone(s:Bs)(B:Bd)(w:World)(h:BdR w s B)(hv:VB B):Calls Tryz.prog 37 #[bv s B] w (PkA w (goL B)):=by
 have HR:=Hd h;have HV:=Hd hv;clear h hv;go_enter Tryz.func37,Tryz.ntmps37
 go_upto_region 1 with fail
 change Code.wp Tryz.prog _ _ _ (w.alloc (.cells (bcells s B) 34))
 obtain⟨wz,hwz⟩:∃W,W=w.alloc (.cells (bcells s B) 34):=⟨_,rfl⟩
 rw[<-hwz];have HB:Hid (Below w.heap.size w wz):=Hd (by rw[hwz];exact(Below.refl _ _).alloc (Nat.le_refl _) _);have HX:Hid (Bx wz w.heap.size s B):=Hd (by rw[hwz];exact heap_alloc_new _ _);clear hwz;go_wp2_with (refine wpList_load_bx _ rfl rfl HX.o (by kernel_rfl) ?_)
 with_reducible refine(bpick0 71 cfG1 (goB B) s B _ (HR.o.below HB.o) HV.o (fun W x hx hb=>by unfold goB;exact go1 x (onF B x) W)).mono ?_
 rintro e w1 ⟨a,c,rfl,ho,hb⟩;have HO:=Hd (ho.base (fun b hb' =>Nat.le_trans HB.o.size (ho.typ b hb').1));replace HB:=Hd (below_via HB.o hb);clear ho hb;go_wp2_with fail
 go_returns
 exact⟨a,c,rfl,HO.o,HB.o⟩
theorem bdying(v:Value)(cs:List Cd)(s:Bs)(B:Bd)(w:World)(hs:CRow w v cs)(hc:CI cs)(h:BdR w s B)(hv:VB B):Calls Tryz.prog 36 #[v,bv s B] w (PkA w (dyL cs B)):=by
 obtain⟨_,va,vcap,rfl,_⟩:=hs.form
 have HS:=Hd hs;have HC:=Hd hc;have HR:=Hd h;have HV:=Hd hv;clear hs hc h hv;go_enter Tryz.func36,Tryz.ntmps36
 go_upto_region 1 with fail
 change Code.wp Tryz.prog _ _ _ ((w.alloc (.cells #[.slice va cs.length vcap] 22)).alloc (.cells (bcells s B) 34))
 obtain⟨wz,hwz⟩:∃W,W=(w.alloc (.cells #[.slice va cs.length vcap] 22)).alloc (.cells (bcells s B) 34):=⟨_,rfl⟩
 rw[<-hwz];have b0:Below w.heap.size w (w.alloc (.cells #[.slice va cs.length vcap] 22)):=(Below.refl _ _).alloc (Nat.le_refl _) _;have b1:Below (w.alloc (.cells #[.slice va cs.length vcap] 22)).heap.size (w.alloc (.cells #[.slice va cs.length vcap] 22)) wz:=by rw[hwz];exact(Below.refl _ _).alloc (Nat.le_refl _) _
 have HB:Hid (Below w.heap.size w wz):=Hd (below_via b0 b1);have HP:Hid (Ro wz w.heap.size #[.slice va cs.length vcap] 22):=Hd (Ro.below (Ro.new w _ 22) b1);have HX:Hid (Bx wz (w.heap.size+1) s B):=Hd (by rw[hwz,show w.heap.size+1=(w.alloc (.cells #[.slice va cs.length vcap] 22)).heap.size by simp];exact heap_alloc_new _ _);clear hwz b0 b1;go_wp2_with (refine wpList_load_bx _ rfl rfl HX.o (by kernel_rfl) ?_)
 with_reducible refine(bpick 69 cfD1 (.pointer (some ⟨w.heap.size,0,none⟩)) (dyB cs B) s B _ (HR.o.below HB.o) HV.o (fun W x hx hb=>by unfold dyB;exact dy1 _ cs x (onF B x) w.heap.size W ((HS.o.below HB.o).below hb) HC.o (HV.o.i.ob x hx) (HP.o.below hb) rfl)).mono ?_
 rintro e w1 ⟨a,c,rfl,ho,hb⟩;have HO:=Hd (ho.base (fun b hb' =>Nat.le_trans HB.o.size (ho.typ b hb').1));replace HB:=Hd (below_via HB.o hb);clear ho hb;go_wp2_with fail
 go_returns
 exact⟨a,c,rfl,HO.o,HB.o⟩
end Go.Proofs.YtpbepnpnpopmfaaGreat
