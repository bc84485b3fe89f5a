/- The law about the triggers of any happening: the walk. -/
import Derived.Test.YtgkgbpapfjjkcaaTLw
import Derived.Test.YtgkgbpapfjjkcaaTWo
import Derived.Deep.DeepCutAuto
import Derived.LoopTactic
import Derived.Deep.MidRow
namespace Go.Proofs.Ytgkgbpapfjjkcaa
open Go.RowKit Plain
set_option linter.unusedVariables false
set_option linter.unusedSimpArgs false

theorem rg3_3{P:Program}{B n:Nat}{w0:World}{L:List (Nat×Nat×Value)}{E F:World→Prop}{id:Nat}{Q:Exit→Act→World→Prop}{a:Act}{w:World}{A:Array Oper}{o0 o1 o2 o3 o4 o5 o6 o7 o8 o9 o10 o11 o12:Oper}(hm:P.follows .mixedOrders=true)(hA:A=[o0,o1,o2,o3,o4,o5,o6,o7,o8,o9,o10,o11,o12].toArray)(hB:regOk A [1,2,5,6] [0,4,9,11,12] (.fs [0,4] (.rs [1,2,5,6] (.alt 3 (.altc 7 (.altc 8 (.fs [9] (.altc 10 (.fs [11,12] .done) .stop)) .stop) .stop) .stop)))=true)(c:RC B w0 n L E F w)
  (h:∀wk,Kept B w0 n L wk→E wk→F wk→wpQuiet P A (fun _=>True) (fun a0=>wpQuiet P A (fun w' =>∃s:KX B w0 n L E,w' =s.val) (fun a1=>((∀K2:Act→World→Prop,(∀a2 w2,((∀K3:Act→World→Prop,(∀a3 w3,((∀K4:Act→World→Prop,(∀a4 w4,wpQuiet P A (fun _=>True) (fun a5=>((∀K6:Act→World→Prop,(∀a6 w6,wpQuiet P A (fun _=>True) (fun a7=>Q .normal a7 w6) [o11,o12] a6→K6 a6 w6)→wpList P A (fun e a6 w6=>e= .normal∧K6 a6 w6) [o10] a5 w4)∧True)) [o9] a4→K4 a4 w4)→wpList P A (fun e a4 w4=>e= .normal∧K4 a4 w4) [o8] a3 w3)∧True)→K3 a3 w3)→wpList P A (fun e a3 w3=>e= .normal∧K3 a3 w3) [o7] a2 w2)∧True)→K2 a2 w2)→wpList P A (fun e a2 w2=>e= .normal∧(∃s:KX B w0 n L E,w2=s.val)∧K2 a2 w2) [o3] a1 wk)∧True)) [o1,o2,o5,o6] a0) [o0,o4] a):(Code.region id A true).wp P Q a w:=by
 subst hA;exact wp_reg _ _ _ hm hB c (fun wk k e f=>have g:=h wk k e f;Scr.of_fs _ _ rfl g fun _ g=>Scr.of_rs _ _ rfl g fun _ g=>(Scr.of_alt rfl (g.1 _ fun _ _ g=>g) (fun _ _ g=>(Scr.of_altc rfl (g.1 _ fun _ _ g=>g) (fun _ _ g=>(Scr.of_altc rfl (g.1 _ fun _ _ g=>g) (fun _ _ g=>Scr.of_fs _ _ rfl g fun _ g=>(Scr.of_altc rfl (g.1 _ fun _ _ g=>g) (fun _ _ g=>Scr.of_fs _ _ rfl g fun _ g=>g) trivial)) trivial)) trivial)) trivial))
theorem rdm{f:Nat}{a:Array Value}{w:World}{l:List It}(h:Calls Try.prog f a w (OfA w l))(ht:∀x∈l,x.tg=[]):Calls Try.prog f a w fun e w' =>∃a c,e= .returned (.slice a l.length c)∧ItR w' (.slice a l.length c) l∧Below w.heap.size w w':=h.mono (fun e w' h=>OfA.rd h ht)
set_option maxRecDepth 100000 in
set_option maxHeartbeats 4000000 in
theorem wtof(v:Value)(cs:List (Cd×List (Int×Nat)))(s:Bs)(B:Bd)(wh id pl:Int)(w:World)(hc:CsR w v cs)(h:BdR w s B)(hi:B.I)(hid:Plain.I id):Calls Try.prog 3 #[v,bv s B,.agg #[.int .i64 wh,.int .i64 id,.int .i64 pl]] w fun e w' =>e= .returned (.bool true)∧Below w.heap.size w w':=by
 have HCS:=Lib.hid hc;have HR:=Lib.hid h;have HI:=Lib.hid hi;have HID:=Lib.hid hid;clear hc h hi hid;go_enter Try.func3,Try.ntmps3
 go_upto_region 1 with fail
 change Code.wp Try.prog _ _ _ ((w.alloc (.cells (bcells s B) 34)).alloc (.cells #[.int .i64 wh,.int .i64 id,.int .i64 pl] 37))
 obtain⟨wz,hwz⟩:∃W,W=((w.alloc (.cells (bcells s B) 34)).alloc (.cells #[.int .i64 wh,.int .i64 id,.int .i64 pl] 37)):=⟨_,rfl⟩
 rw[←hwz];have b0:Below w.heap.size w (w.alloc (.cells (bcells s B) 34)):=by exact(Below.refl _ _).alloc (Nat.le_refl _) _
 have b1:Below (w.alloc (.cells (bcells s B) 34)).heap.size (w.alloc (.cells (bcells s B) 34)) wz:=by rw[hwz];exact(Below.refl _ _).alloc (Nat.le_refl _) _
 have HB:Hid (Below w.heap.size w wz):=Lib.hid (below_via b0 b1);have HXb:Hid (Bx wz (w.heap.size) s B):=Lib.hid ((Ro.new w (bcells s B) 34).below b1:Ro _ _ _ _);have HXh:Hid (Ro wz (w.heap.size+1) #[.int .i64 wh,.int .i64 id,.int .i64 pl] 37):=Lib.hid (by rw[show w.heap.size+1=(w.alloc (.cells (bcells s B) 34)).heap.size by simp];exact(by rw[hwz];exact(Ro.new (w.alloc (.cells (bcells s B) 34)) #[.int .i64 wh,.int .i64 id,.int .i64 pl] 37)));have HC1:Hid (w.heap.size+2≤wz.heap.size):=Lib.hid (by rw[hwz];simp);clear hwz b0 b1;go_wp2_with fail
 with_reducible refine(llight v cs _ (HCS.out.below HB.out)).mono ?_
 rintro e w1 ⟨⟨r,rfl,hr⟩,hb⟩;have HC2:Hid (wz.heap.size≤w1.heap.size):=Lib.hid (hb.size);replace HB:=Lib.hid (below_via HB.out hb);replace HXb:=Lib.hid (HXb.out.below hb);replace HXh:=Lib.hid (HXh.out.below hb);clear hb
 cases r
 ·go_wp2_with fail
  with_reducible refine(known _).mono ?_
  rintro e w2 ⟨rfl,hb⟩;have HC3:Hid (w1.heap.size≤w2.heap.size):=Lib.hid (hb.size);replace HB:=Lib.hid (below_via HB.out hb);replace HXb:=Lib.hid (HXb.out.below hb);replace HXh:=Lib.hid (HXh.out.below hb);clear hb;go_wp2_with fail
  go_returns
  exact⟨rfl,HB.out⟩
 have HL:=Lib.hid (hr rfl);clear hr;go_wp2_with (first|(refine wpList_load_bx _ rfl rfl HXb.out (by kernel_rfl) ?_))
 with_reducible refine(bsmall s B _ (HR.out.below HB.out)).mono ?_
 rintro e w2 ⟨⟨r,rfl,hr⟩,hb⟩;have HC3:Hid (w1.heap.size≤w2.heap.size):=Lib.hid (hb.size);replace HB:=Lib.hid (below_via HB.out hb);replace HXb:=Lib.hid (HXb.out.below hb);replace HXh:=Lib.hid (HXh.out.below hb);clear hb
 cases r
 ·go_wp2_with fail
  with_reducible refine(known _).mono ?_
  rintro e w3 ⟨rfl,hb⟩;have HC4:Hid (w2.heap.size≤w3.heap.size):=Lib.hid (hb.size);replace HB:=Lib.hid (below_via HB.out hb);replace HXb:=Lib.hid (HXb.out.below hb);replace HXh:=Lib.hid (HXh.out.below hb);clear hb;go_wp2_with fail
  go_returns
  exact⟨rfl,HB.out⟩
 have HTY:=Lib.hid (hr rfl);have HSM:=Lib.hid (Tiny.sm HTY.out);have HTL:=Lib.hid (Tiny.tl HTY.out);clear hr
 go_upto_region 3 with fail
 have d0:w2.cell? ⟨w.heap.size+1,0,none⟩=some (.int .i64 wh):=HXh.out.cell 0;have d1:w2.cell? ⟨w.heap.size+1,1,none⟩=some (.int .i64 id):=HXh.out.cell 1;have d2:w2.cell? ⟨w.heap.size+1,2,none⟩=some (.int .i64 pl):=HXh.out.cell 2;have hlb:w.heap.size+1<w2.heap.size:=HXh.out.lt;refine rg3_3 (w0:=w2) (B:=w2.heap.size) (n:=w2.heap.size) (L:=[]) (by kernel_rfl) rfl (by kernel_rfl) (.t ⟨by go_grown,by go_size,(by simp[go_sem]<;>omega)⟩) (fun w91 K_w91 E_w91 F_w91=> ?_);have _ne:Nonempty (KX (w2.heap.size) w2 (w2.heap.size) [] (fun _=>True)):=⟨⟨_,K_w91,E_w91⟩⟩;have qb0:∀W',(∃s':KX (w2.heap.size) w2 (w2.heap.size) [] (fun _=>True),W' =s'.val)→Bx W' (w.heap.size) s (B):=by rintro _ ⟨s',rfl⟩;exact HXb.out.below s'.kept.below
 repeat (first|(go_big_quiet_want;(first|apply quiet_load_bx _ rfl rfl qb0);(focus(simp[go_sem];rfl));go_big_quiet_on)|go_big_quiet_step (fail))
 refine wpQuiet_nil ?_;have rh0:=rck _ne d0 hlb;have rh1:=rck _ne d1 hlb;have rh2:=rck _ne d2 hlb
 repeat (first|(go_big_quiet_want;(first|apply quiet_load_bx _ rfl rfl qb0);(focus(simp[go_sem];rfl));go_big_quiet_on)|go_big_quiet_step (fail))
 refine wpQuiet_nil ?_;have KH_w91:=Lib.hid K_w91;have hw_w91:=K_w91.below;have hz_w91:=K_w91.size;clear K_w91;clear E_w91 F_w91
 refine⟨fun K hK0=> ?_,trivial⟩
 have hK:=Lib.hid hK0;clear hK0;go_wp2_with fail
 with_reducible refine(rdm (ofU v cs s B wh id pl _ ((HCS.out.below HB.out).below KH_w91.out.below) HL.out ((HR.out.below HB.out).below KH_w91.out.below) HI.out HSM.out HID.out) (hofL_tg _ _ _ _ _)).mono ?_
 rintro e wa ⟨xa,xc,rfl,hm,hb⟩;have HBY:Hid (Below w2.heap.size w2 wa):=Lib.hid (below_via KH_w91.out.below hb);have HM:=Lib.hid hm;clear hm;clear hb;go_wp2_with fail
 first|refine⟨rfl,?u,hK.out _ _ ?_⟩|refine⟨?u,hK.out _ _ ?_⟩
 case u=>exact⟨⟨_,(⟨HBY.out,HBY.out.size,by simp⟩:Kept w2.heap.size w2 w2.heap.size [] wa),trivial⟩,rfl⟩
 clear hK K
 refine⟨fun K hK0=> ?_,trivial⟩
 have hK:=Lib.hid hK0;clear hK0;go_wp2_with fail
 with_reducible refine(rdm (rofU v cs s B wh id pl _ ((HCS.out.below HB.out).below HBY.out) HL.out ((HR.out.below HB.out).below HBY.out) HI.out HSM.out) (hofL_tg _ _ _ _ _)).mono ?_
 rintro e wb ⟨ya,yc,rfl,hm,hb⟩;replace HBY:Hid (Below w2.heap.size w2 wb):=Lib.hid (below_via HBY.out hb);replace HM:=Lib.hid (HM.out.below hb);have HN:=Lib.hid hm;clear hm;clear hb;go_wp2_with fail
 first|refine⟨rfl,hK.out _ _ ?_⟩|refine hK.out _ _ ?_
 clear hK K
 refine⟨fun K hK0=> ?_,trivial⟩
 have hK:=Lib.hid hK0;clear hK0;go_wp2_with fail
 with_reducible refine(gsame _ _ (hofL cs B wh id pl) _ HM.out HN.out).mono ?_
 rintro e wd ⟨rfl,hb⟩;replace HBY:Hid (Below w2.heap.size w2 wd):=Lib.hid (below_via HBY.out hb);clear hb;go_wp2_with fail
 first|refine⟨rfl,hK.out _ _ ?_⟩|refine hK.out _ _ ?_
 clear hK K
 repeat (first|(go_big_quiet_want;(first|apply quiet_load_bx _ rfl rfl qb0);(focus(simp[go_sem];rfl));go_big_quiet_on)|go_big_quiet_step (fail))
 refine wpQuiet_nil ?_
 refine⟨fun K hK0=> ?_,trivial⟩
 have hK:=Lib.hid hK0;clear hK0;go_wp2_with fail
 with_reducible refine(known _).mono ?_
 rintro e we ⟨rfl,hb⟩;replace HBY:Hid (Below w2.heap.size w2 we):=Lib.hid (below_via HBY.out hb);clear hb;go_wp2_with fail
 first|refine⟨rfl,hK.out _ _ ?_⟩|refine hK.out _ _ ?_
 clear hK K
 repeat (first|(go_big_quiet_want;(first|apply quiet_load_bx _ rfl rfl qb0);(focus(simp[go_sem];rfl));go_big_quiet_on)|go_big_quiet_step (fail))
 refine wpQuiet_nil ?_;clear rh0 rh1 rh2;clear _ne qb0;go_wp2_with fail
 go_returns
 exact⟨rfl,below_via HB.out HBY.out⟩
end Go.Proofs.Ytgkgbpapfjjkcaa
