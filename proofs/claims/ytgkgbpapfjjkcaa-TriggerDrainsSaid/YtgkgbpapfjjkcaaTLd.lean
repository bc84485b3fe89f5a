/- The law about the queue that is drained: the walk. -/
import Derived.Test.YtgkgbpapfjjkcaaTLv
import Derived.Test.YtgkgbpapfjjkcaaTRd
import Derived.Deep.DeepCutAuto
import Derived.LoopTactic
import Derived.Deep.MidRow
namespace Go.Proofs.Ytgkgbpapfjjkcaa
open Go.RowKit Plain
set_option linter.unusedVariables false
set_option linter.unusedSimpArgs false

theorem rg5_8{P:Program}{B n:Nat}{w0:World}{L:List (Nat×Nat×Value)}{E F:World→Prop}{id:Nat}{Q:Exit→Act→World→Prop}{a:Act}{w:World}{A:Array Oper}{o0 o1 o2 o3 o4 o5 o6 o7 o8 o9 o10 o11 o12 o13 o14 o15 o16:Oper}(hm:P.follows .mixedOrders=true)(hA:A=[o0,o1,o2,o3,o4,o5,o6,o7,o8,o9,o10,o11,o12,o13,o14,o15,o16].toArray)(hB:regOk A [1,5,7,9,10] [0,4,6,12,13,15,16] (.fs [0] (.rs [1] (.alt 2 (.alt 3 (.fs [4,6] (.rs [5,7,9,10] (.alt 8 (.altc 11 (.fs [12,13] (.altc 14 (.fs [15,16] .done) .stop)) .stop) .stop))) .stop) .stop)))=true)(c:RC B w0 n L E F w)
  (h:∀wk,Kept B w0 n L wk→E wk→F wk→wpQuiet P A (fun _=>True) (fun a0=>wpQuiet P A (fun w' =>∃s:KX B w0 n L E,w' =s.val) (fun a1=>((∀K2:Act→World→Prop,(∀a2 w2,((∀K3:Act→World→Prop,(∀a3 w3,wpQuiet P A (fun _=>True) (fun a4=>wpQuiet P A (fun w' =>∃s:KX B w0 n L E,w' =s.val) (fun a5=>((∀K6:Act→World→Prop,(∀a6 w6,((∀K7:Act→World→Prop,(∀a7 w7,wpQuiet P A (fun _=>True) (fun a8=>((∀K9:Act→World→Prop,(∀a9 w9,wpQuiet P A (fun _=>True) (fun a10=>Q .normal a10 w9) [o15,o16] a9→K9 a9 w9)→wpList P A (fun e a9 w9=>e= .normal∧K9 a9 w9) [o14] a8 w7)∧True)) [o12,o13] a7→K7 a7 w7)→wpList P A (fun e a7 w7=>e= .normal∧K7 a7 w7) [o11] a6 w6)∧True)→K6 a6 w6)→wpList P A (fun e a6 w6=>e= .normal∧(∃s:KX B w0 n L E,w6=s.val)∧K6 a6 w6) [o8] a5 w3)∧True)) [o5,o7,o9,o10] a4) [o4,o6] a3→K3 a3 w3)→wpList P A (fun e a3 w3=>e= .normal∧(∃s:KX B w0 n L E,w3=s.val)∧K3 a3 w3) [o3] a2 w2)∧True)→K2 a2 w2)→wpList P A (fun e a2 w2=>e= .normal∧(∃s:KX B w0 n L E,w2=s.val)∧K2 a2 w2) [o2] a1 wk)∧True)) [o1] a0) [o0] a):(Code.region id A true).wp P Q a w:=by
 subst hA;exact wp_reg _ _ _ hm hB c (fun wk k e f=>have g:=h wk k e f;Scr.of_fs _ _ rfl g fun _ g=>Scr.of_rs _ _ rfl g fun _ g=>(Scr.of_alt rfl (g.1 _ fun _ _ g=>g) (fun _ _ g=>(Scr.of_alt rfl (g.1 _ fun _ _ g=>g) (fun _ _ g=>Scr.of_fs _ _ rfl g fun _ g=>Scr.of_rs _ _ rfl g fun _ g=>(Scr.of_alt rfl (g.1 _ fun _ _ g=>g) (fun _ _ g=>(Scr.of_altc rfl (g.1 _ fun _ _ g=>g) (fun _ _ g=>Scr.of_fs _ _ rfl g fun _ g=>(Scr.of_altc rfl (g.1 _ fun _ _ g=>g) (fun _ _ g=>Scr.of_fs _ _ rfl g fun _ g=>g) trivial)) trivial)) trivial)) trivial)) trivial))
set_option maxRecDepth 100000 in
set_option maxHeartbeats 4000000 in
theorem wtd_bad(s:Bs)(B:Bd)(w:World)(h:BdR w s B)(hi:B.I)(hv:¬VB B):Calls Try.prog 5 #[bv s B] w fun e w' =>e= .returned (.bool true)∧Below w.heap.size w w':=by
 have HR:=Lib.hid h;have HI:=Lib.hid hi;have HV:=Lib.hid hv;clear h hi hv;go_enter Try.func5,Try.ntmps5
 go_upto_region 1 with fail
 change Code.wp Try.prog _ _ _ (w.alloc (.cells (bcells s B) 34))
 obtain⟨wz,hwz⟩:∃W,W=(w.alloc (.cells (bcells s B) 34)):=⟨_,rfl⟩
 rw[←hwz];have b0:Below w.heap.size w wz:=by rw[hwz];exact(Below.refl _ _).alloc (Nat.le_refl _) _
 have HB:Hid (Below w.heap.size w wz):=Lib.hid b0;have HXb:Hid (Bx wz (w.heap.size) s B):=Lib.hid (by rw[hwz];exact(Ro.new w (bcells s B) 34));have HC1:Hid (w.heap.size+1≤wz.heap.size):=Lib.hid (by rw[hwz];simp);clear hwz b0;go_wp2_with (first|(refine wpList_load_bx _ rfl rfl HXb.out (by kernel_rfl) ?_))
 with_reducible refine(bsmall s B _ (HR.out.below HB.out)).mono ?_
 rintro e w1 ⟨⟨r,rfl,hr⟩,hb⟩;have HC2:Hid (wz.heap.size≤w1.heap.size):=Lib.hid (hb.size);replace HB:=Lib.hid (below_via HB.out hb);replace HXb:=Lib.hid (HXb.out.below hb);clear hb
 cases r
 ·go_wp2_with fail
  with_reducible refine(known _).mono ?_
  rintro e w2 ⟨rfl,hb⟩;have HC3:Hid (w1.heap.size≤w2.heap.size):=Lib.hid (hb.size);replace HB:=Lib.hid (below_via HB.out hb);replace HXb:=Lib.hid (HXb.out.below hb);clear hb;go_wp2_with fail
  go_returns
  exact⟨rfl,HB.out⟩
 have HTY:=Lib.hid (hr rfl);have HSM:=Lib.hid (Tiny.sm HTY.out);have HTL:=Lib.hid (Tiny.tl HTY.out);clear hr
 go_upto_region 3 with fail
 go_wp2_with (first|(refine wpList_load_bx _ rfl rfl HXb.out (by kernel_rfl) ?_))
 with_reducible refine(rcopy s B _ (HR.out.below HB.out) HSM.out HTL.out).mono ?_
 rintro e w2 ⟨sw,rfl,ho,hb⟩;have HC3:Hid (w1.heap.size≤w2.heap.size):=Lib.hid (hb.size);replace HB:=Lib.hid (below_via HB.out hb);replace HXb:=Lib.hid (HXb.out.below hb);have HOw:=Lib.hid ho;clear ho hb;go_wp2_with (first|(refine wpList_store_bh rfl _ _ rfl rfl rfl (heap_alloc_new _ _) rfl ?_))
 intro w3 hw0;have hbx:=boxed hw0.out
 obtain⟨nw,hn⟩:∃n,n=w2.heap.size:=⟨_,rfl⟩
 rw[←hn] at hbx ⊢
 have hb:=hbx.1;rw[hn] at hb
 clear hw0;replace HB:=Lib.hid (below_via HB.out hb);replace HXb:=Lib.hid (HXb.out.below hb);replace HOw:=Lib.hid (HOw.out.below hb);have HXw:Hid (Bx w3 nw sw (B)):=Lib.hid hbx.2;have HC4:Hid (w2.heap.size≤nw∧nw<w3.heap.size):=Lib.hid (⟨by omega,hbx.2.lt⟩);clear hbx hn hb;have HRW:=Lib.hid HOw.out.rd;have HBW:Hid (Below w3.heap.size w3 w3):=Lib.hid (Below.refl _ _);clear HOw
 go_upto_region 4 with fail
 go_wp2_with (first|(refine wpList_load_bx _ rfl rfl HXb.out (by kernel_rfl) ?_))
 with_reducible refine(order_bad s B _ (HR.out.below HB.out) HI.out HSM.out HV.out).mono ?_
 rintro e w4 ⟨la,lc,rfl,hl,hb⟩;have HC5:Hid (w3.heap.size≤w4.heap.size):=Lib.hid (hb.size);replace HB:=Lib.hid (below_via HB.out hb);replace HXb:=Lib.hid (HXb.out.below hb);replace HXw:=Lib.hid (HXw.out.below hb);replace HBW:=Lib.hid (below_via HBW.out hb);have HM:=Lib.hid hl;clear hl hb
 go_upto_region 5 with fail
 go_wp2_with (first|(refine wpList_load_bx _ rfl rfl HXb.out (by kernel_rfl) ?_))
 with_reducible refine(drain_bad s B _ (HR.out.below HB.out) HI.out HSM.out HV.out).mono ?_
 rintro e w5 ⟨sx,rfl,ho,hb⟩;have HC6:Hid (w4.heap.size≤w5.heap.size):=Lib.hid (hb.size);replace HB:=Lib.hid (below_via HB.out hb);replace HXb:=Lib.hid (HXb.out.below hb);replace HXw:=Lib.hid (HXw.out.below hb);replace HM:=Lib.hid (HM.out.below hb);replace HBW:=Lib.hid (below_via HBW.out hb);have HOx:=Lib.hid ho;clear ho hb;go_wp2_with (first|(refine wpList_store_bh rfl _ _ rfl rfl rfl (heap_alloc_new _ _) rfl ?_))
 intro w6 hw0;have hbx:=boxed hw0.out
 obtain⟨nx,hn⟩:∃n,n=w5.heap.size:=⟨_,rfl⟩
 rw[←hn] at hbx ⊢
 have hb:=hbx.1;rw[hn] at hb
 clear hw0;replace HB:=Lib.hid (below_via HB.out hb);replace HXb:=Lib.hid (HXb.out.below hb);replace HXw:=Lib.hid (HXw.out.below hb);replace HOx:=Lib.hid (HOx.out.below hb);replace HM:=Lib.hid (HM.out.below hb);replace HBW:=Lib.hid (below_via HBW.out hb);have HXx:Hid (Bx w6 nx sx (zeroB)):=Lib.hid hbx.2;have HC7:Hid (w5.heap.size≤nx∧nx<w6.heap.size):=Lib.hid (⟨by omega,hbx.2.lt⟩);clear hbx hn hb
 go_upto_region 6 with fail
 go_wp2_with (first|(refine wpList_load_bx _ rfl rfl HXb.out (by kernel_rfl) ?_))
 with_reducible refine(brvalid s (B) _ (HR.out.below HB.out) HI.out HSM.out).mono ?_
 rintro e w7 ⟨⟨r,rfl,hr⟩,hb⟩;have HC8:Hid (w6.heap.size≤w7.heap.size):=Lib.hid (hb.size);replace HB:=Lib.hid (below_via HB.out hb);replace HXb:=Lib.hid (HXb.out.below hb);replace HXw:=Lib.hid (HXw.out.below hb);replace HXx:=Lib.hid (HXx.out.below hb);replace HOx:=Lib.hid (HOx.out.below hb);replace HM:=Lib.hid (HM.out.below hb);replace HBW:=Lib.hid (below_via HBW.out hb);obtain rfl:r=false:=by cases r with|false=>rfl|true=>exact absurd (hr.1 rfl) HV.out
 clear hr hb
 go_upto_region 7 with fail
 replace HOx:Hid (BdO w3.heap.size w5.heap.size w7 sx zeroB):=Lib.hid (HOx.out.mono (by(have o0:=HC1.out;have o1:=HC2.out;have o2:=HC3.out;have o3:=HC4.out;have o4:=HC5.out;have o5:=HC6.out;have o6:=HC7.out;have o7:=HC8.out;have x0:=HXb.out.lt;have x1:=HXw.out.lt;have x2:=HXx.out.lt;omega)) (Nat.le_refl _));go_wp2_with (first|(refine wpList_load_bx _ rfl rfl HXx.out (by kernel_rfl) ?_)|(refine wpList_load_bx _ rfl rfl HXb.out (by kernel_rfl) ?_)|(refine wpList_load_bx _ rfl rfl HXw.out (by kernel_rfl) ?_))
 have hb0:=HB.out.size;have hbw0:=HBW.out.size;have hq1:w5.heap.size≤w7.heap.size:=(by(have o0:=HC1.out;have o1:=HC2.out;have o2:=HC3.out;have o3:=HC4.out;have o4:=HC5.out;have o5:=HC6.out;have o6:=HC7.out;have o7:=HC8.out;have x0:=HXb.out.lt;have x1:=HXw.out.lt;have x2:=HXx.out.lt;omega));have hq2:w.heap.size≤w3.heap.size:=(by(have o0:=HC1.out;have o1:=HC2.out;have o2:=HC3.out;have o3:=HC4.out;have o4:=HC5.out;have o5:=HC6.out;have o6:=HC7.out;have o7:=HC8.out;have x0:=HXb.out.lt;have x1:=HXw.out.lt;have x2:=HXx.out.lt;omega));with_reducible refine(givesV sx s sw B 2 (w3.heap.size) (w5.heap.size) _ (by with_unfolding_all rfl) HOx.out hq1 (fun W hr=>HR.out.below (Rng.below HB.out hr hq2 hb0)) (fun W hr=>HRW.out.below (Rng.below HBW.out hr (Nat.le_refl _) hbw0))).mono ?_
 rintro e w8 ⟨rfl,hr⟩;replace HB:=Lib.hid (Rng.below HB.out hr hq2 hb0);clear hb0 hbw0 hq1 hq2 hr;go_wp2_with fail
 with_reducible refine(known _).mono ?_
 rintro e w9 ⟨rfl,hb⟩;have HC9:Hid (w8.heap.size≤w9.heap.size):=Lib.hid (hb.size);replace HB:=Lib.hid (below_via HB.out hb);clear hb;go_wp2_with fail
 go_returns
 exact⟨rfl,HB.out⟩
set_option maxRecDepth 100000 in
set_option maxHeartbeats 4000000 in
theorem wtd_ok(s:Bs)(B:Bd)(w:World)(h:BdR w s B)(hi:B.I)(hv:VB B):Calls Try.prog 5 #[bv s B] w fun e w' =>e= .returned (.bool true)∧Below w.heap.size w w':=by
 have HR:=Lib.hid h;have HI:=Lib.hid hi;have HV:=Lib.hid hv;clear h hi hv;go_enter Try.func5,Try.ntmps5
 go_upto_region 1 with fail
 change Code.wp Try.prog _ _ _ (w.alloc (.cells (bcells s B) 34))
 obtain⟨wz,hwz⟩:∃W,W=(w.alloc (.cells (bcells s B) 34)):=⟨_,rfl⟩
 rw[←hwz];have b0:Below w.heap.size w wz:=by rw[hwz];exact(Below.refl _ _).alloc (Nat.le_refl _) _
 have HB:Hid (Below w.heap.size w wz):=Lib.hid b0;have HXb:Hid (Bx wz (w.heap.size) s B):=Lib.hid (by rw[hwz];exact(Ro.new w (bcells s B) 34));have HC1:Hid (w.heap.size+1≤wz.heap.size):=Lib.hid (by rw[hwz];simp);clear hwz b0;go_wp2_with (first|(refine wpList_load_bx _ rfl rfl HXb.out (by kernel_rfl) ?_))
 with_reducible refine(bsmall s B _ (HR.out.below HB.out)).mono ?_
 rintro e w1 ⟨⟨r,rfl,hr⟩,hb⟩;have HC2:Hid (wz.heap.size≤w1.heap.size):=Lib.hid (hb.size);replace HB:=Lib.hid (below_via HB.out hb);replace HXb:=Lib.hid (HXb.out.below hb);clear hb
 cases r
 ·go_wp2_with fail
  with_reducible refine(known _).mono ?_
  rintro e w2 ⟨rfl,hb⟩;have HC3:Hid (w1.heap.size≤w2.heap.size):=Lib.hid (hb.size);replace HB:=Lib.hid (below_via HB.out hb);replace HXb:=Lib.hid (HXb.out.below hb);clear hb;go_wp2_with fail
  go_returns
  exact⟨rfl,HB.out⟩
 have HTY:=Lib.hid (hr rfl);have HSM:=Lib.hid (Tiny.sm HTY.out);have HTL:=Lib.hid (Tiny.tl HTY.out);clear hr
 go_upto_region 3 with fail
 go_wp2_with (first|(refine wpList_load_bx _ rfl rfl HXb.out (by kernel_rfl) ?_))
 with_reducible refine(rcopy s B _ (HR.out.below HB.out) HSM.out HTL.out).mono ?_
 rintro e w2 ⟨sw,rfl,ho,hb⟩;have HC3:Hid (w1.heap.size≤w2.heap.size):=Lib.hid (hb.size);replace HB:=Lib.hid (below_via HB.out hb);replace HXb:=Lib.hid (HXb.out.below hb);have HOw:=Lib.hid ho;clear ho hb;go_wp2_with (first|(refine wpList_store_bh rfl _ _ rfl rfl rfl (heap_alloc_new _ _) rfl ?_))
 intro w3 hw0;have hbx:=boxed hw0.out
 obtain⟨nw,hn⟩:∃n,n=w2.heap.size:=⟨_,rfl⟩
 rw[←hn] at hbx ⊢
 have hb:=hbx.1;rw[hn] at hb
 clear hw0;replace HB:=Lib.hid (below_via HB.out hb);replace HXb:=Lib.hid (HXb.out.below hb);replace HOw:=Lib.hid (HOw.out.below hb);have HXw:Hid (Bx w3 nw sw (B)):=Lib.hid hbx.2;have HC4:Hid (w2.heap.size≤nw∧nw<w3.heap.size):=Lib.hid (⟨by omega,hbx.2.lt⟩);clear hbx hn hb;have HRW:=Lib.hid HOw.out.rd;have HBW:Hid (Below w3.heap.size w3 w3):=Lib.hid (Below.refl _ _);clear HOw
 go_upto_region 4 with fail
 go_wp2_with (first|(refine wpList_load_bx _ rfl rfl HXb.out (by kernel_rfl) ?_))
 with_reducible refine(order_ok s B _ (HR.out.below HB.out) HI.out HSM.out HTL.out HV.out).mono ?_
 rintro e w4 ⟨la,lc,rfl,hl,hb⟩;have HC5:Hid (w3.heap.size≤w4.heap.size):=Lib.hid (hb.size);replace HB:=Lib.hid (below_via HB.out hb);replace HXb:=Lib.hid (HXb.out.below hb);replace HXw:=Lib.hid (HXw.out.below hb);replace HBW:=Lib.hid (below_via HBW.out hb);have HM:=Lib.hid hl;clear hl hb
 go_upto_region 5 with fail
 go_wp2_with (first|(refine wpList_load_bx _ rfl rfl HXb.out (by kernel_rfl) ?_))
 with_reducible refine(drain_ok s B _ (HR.out.below HB.out) HV.out).mono ?_
 rintro e w5 ⟨sx,rfl,ho,hb⟩;have HC6:Hid (w4.heap.size≤w5.heap.size):=Lib.hid (hb.size);replace HB:=Lib.hid (below_via HB.out hb);replace HXb:=Lib.hid (HXb.out.below hb);replace HXw:=Lib.hid (HXw.out.below hb);replace HM:=Lib.hid (HM.out.below hb);replace HBW:=Lib.hid (below_via HBW.out hb);have HOx:=Lib.hid ho;clear ho hb;go_wp2_with (first|(refine wpList_store_bh rfl _ _ rfl rfl rfl (heap_alloc_new _ _) rfl ?_))
 intro w6 hw0;have hbx:=boxed hw0.out
 obtain⟨nx,hn⟩:∃n,n=w5.heap.size:=⟨_,rfl⟩
 rw[←hn] at hbx ⊢
 have hb:=hbx.1;rw[hn] at hb
 clear hw0;replace HB:=Lib.hid (below_via HB.out hb);replace HXb:=Lib.hid (HXb.out.below hb);replace HXw:=Lib.hid (HXw.out.below hb);replace HOx:=Lib.hid (HOx.out.below hb);replace HM:=Lib.hid (HM.out.below hb);replace HBW:=Lib.hid (below_via HBW.out hb);have HXx:Hid (Bx w6 nx sx ((drB B))):=Lib.hid hbx.2;have HC7:Hid (w5.heap.size≤nx∧nx<w6.heap.size):=Lib.hid (⟨by omega,hbx.2.lt⟩);clear hbx hn hb
 go_upto_region 6 with fail
 go_wp2_with (first|(refine wpList_load_bx _ rfl rfl HXb.out (by kernel_rfl) ?_))
 with_reducible refine(brvalid s (B) _ (HR.out.below HB.out) HI.out HSM.out).mono ?_
 rintro e w7 ⟨⟨r,rfl,hr⟩,hb⟩;have HC8:Hid (w6.heap.size≤w7.heap.size):=Lib.hid (hb.size);replace HB:=Lib.hid (below_via HB.out hb);replace HXb:=Lib.hid (HXb.out.below hb);replace HXw:=Lib.hid (HXw.out.below hb);replace HXx:=Lib.hid (HXx.out.below hb);replace HOx:=Lib.hid (HOx.out.below hb);replace HM:=Lib.hid (HM.out.below hb);replace HBW:=Lib.hid (below_via HBW.out hb);obtain rfl:r=true:=hr.2 HV.out;clear hr hb;have HQ1:Hid (B.qu.length≤1000):=Lib.hid (by have h1:=HV.out.num;unfold vNum at h1;exact Nat.le_trans h1.2.2.2.2.2.2.2 (by omega));have HLH:Hid (w3.heap.size≤w4.heap.size∧w5.heap.size≤w7.heap.size∧w.heap.size≤w3.heap.size∧w.heap.size≤w4.heap.size):=Lib.hid (by(have o0:=HC1.out;have o1:=HC2.out;have o2:=HC3.out;have o3:=HC4.out;have o4:=HC5.out;have o5:=HC6.out;have o6:=HC7.out;have o7:=HC8.out;have x0:=HXb.out.lt;have x1:=HXw.out.lt;have x2:=HXx.out.lt;refine⟨?_,?_,?_,?_⟩<;>omega));have HK9:Hid (Kept w.heap.size w w.heap.size [] w7):=Lib.hid ⟨HB.out,HB.out.size,by simp⟩
 obtain⟨wb,hwb⟩:∃W,W=w7:=⟨_,rfl⟩
 rw[←hwb] at HB HBW HOx HM HXb HXw HXx HLH HK9 ⊢
 have hz9:=HB.out.size;clear hwb HC1 HC2 HC3 HC4 HC5 HC6 HC7 HC8
 go_upto_region 8 with fail
 refine rg5_8 (w0:=w) (B:=w.heap.size) (n:=w.heap.size) (L:=[]) (E:=fun W=>Bx W (w.heap.size) s (B)∧Bx W (nw) sw (B)∧Bx W (nx) sx ((drB B))) (F:=fun W=>Below w.heap.size w W∧Below w3.heap.size w3 W∧BdO w4.heap.size w5.heap.size W sx ((drB B))∧ItR W (.slice la (ordL B).length lc) (ordL B)∧wb.heap.size≤W.heap.size∧Bx W (w.heap.size) s (B)∧Bx W (nw) sw (B)∧Bx W (nx) sx ((drB B))) (by kernel_rfl) rfl (by kernel_rfl) ⟨(HK9.out.step (by omega) (by go_grown)),⟨HXb.out,HXw.out,HXx.out⟩,fun _ _ h hb=>⟨(h.1).below hb,(h.2.1).below hb,(h.2.2).below hb⟩,⟨HB.out,HBW.out,HOx.out,HM.out,Nat.le_refl _,HXb.out,HXw.out,HXx.out⟩,fun _ _ h hb=>⟨below_via (h.1) hb,below_via (h.2.1) hb,(h.2.2.1).below hb,(h.2.2.2.1).below hb,Nat.le_trans (h.2.2.2.2.1) hb.size,(h.2.2.2.2.2.1).below hb,(h.2.2.2.2.2.2.1).below hb,(h.2.2.2.2.2.2.2).below hb⟩⟩ (fun w61 K_w61 E_w61 F_w61=> ?_);have _ne:Nonempty (KX (w.heap.size) w (w.heap.size) [] (fun W=>Bx W (w.heap.size) s (B)∧Bx W (nw) sw (B)∧Bx W (nx) sx ((drB B)))):=⟨⟨_,K_w61,E_w61⟩⟩;have qb:∀W',(∃s':KX (w.heap.size) w (w.heap.size) [] (fun W=>Bx W (w.heap.size) s (B)∧Bx W (nw) sw (B)∧Bx W (nx) sx ((drB B))),W' =s'.val)→Bx W' (w.heap.size) s (B):=by rintro _ ⟨s',rfl⟩;exact s'.ex.1
 have qw:∀W',(∃s':KX (w.heap.size) w (w.heap.size) [] (fun W=>Bx W (w.heap.size) s (B)∧Bx W (nw) sw (B)∧Bx W (nx) sx ((drB B))),W' =s'.val)→Bx W' (nw) sw (B):=by rintro _ ⟨s',rfl⟩;exact s'.ex.2.1
 have qx:∀W',(∃s':KX (w.heap.size) w (w.heap.size) [] (fun W=>Bx W (w.heap.size) s (B)∧Bx W (nw) sw (B)∧Bx W (nx) sx ((drB B))),W' =s'.val)→Bx W' (nx) sx ((drB B)):=by rintro _ ⟨s',rfl⟩;exact s'.ex.2.2
 repeat (first|(go_big_quiet_want;(first|apply quiet_load_bx _ rfl rfl qb|apply quiet_load_bx _ rfl rfl qw|apply quiet_load_bx _ rfl rfl qx);(focus(simp[go_sem];rfl));go_big_quiet_on)|go_big_quiet_step (fail))
 refine wpQuiet_nil ?_
 repeat (first|(go_big_quiet_want;(first|apply quiet_load_bx _ rfl rfl qb|apply quiet_load_bx _ rfl rfl qw|apply quiet_load_bx _ rfl rfl qx);(focus(simp[go_sem];rfl));go_big_quiet_on)|go_big_quiet_step (fail))
 refine wpQuiet_nil ?_;have KH_w61:=Lib.hid K_w61;have hw_w61:=K_w61.below;have hz_w61:=K_w61.size;clear K_w61;have HB:=Lib.hid (F_w61.1);have HBW:=Lib.hid (F_w61.2.1);have HOx:=Lib.hid (F_w61.2.2.1);have HM:=Lib.hid (F_w61.2.2.2.1);have HLW:=Lib.hid (F_w61.2.2.2.2.1);have HXb:=Lib.hid (F_w61.2.2.2.2.2.1);have HXw:=Lib.hid (F_w61.2.2.2.2.2.2.1);have HXx:=Lib.hid (F_w61.2.2.2.2.2.2.2);clear E_w61 F_w61
 refine⟨fun K hK0=> ?_,trivial⟩
 have hK:=Lib.hid hK0;clear hK0;go_wp2_with fail
 with_reducible refine(rorder s B _ (HR.out.below HB.out) HQ1.out).mono ?_
 rintro e v0 ⟨ra,rc,rfl,hm,hb⟩;replace HB:=Lib.hid (below_via HB.out hb);replace HBW:=Lib.hid (below_via HBW.out hb);replace HOx:=Lib.hid (HOx.out.below hb);replace HM:=Lib.hid (HM.out.below hb);replace HLW:=Lib.hid (Nat.le_trans HLW.out hb.size);replace HXb:=Lib.hid (HXb.out.below hb);replace HXw:=Lib.hid (HXw.out.below hb);replace HXx:=Lib.hid (HXx.out.below hb);have HN:=Lib.hid hm;clear hm;clear hb;go_wp2_with fail
 first|refine⟨rfl,?u,hK.out _ _ ?_⟩|refine⟨?u,hK.out _ _ ?_⟩
 case u=>exact⟨⟨_,(⟨HB.out,HB.out.size,by simp⟩:Kept w.heap.size w w.heap.size [] v0),⟨HXb.out,HXw.out,HXx.out⟩⟩,rfl⟩
 clear hK K
 refine⟨fun K hK0=> ?_,trivial⟩
 have hK:=Lib.hid hK0;clear hK0;go_wp2_with fail
 with_reducible refine(gsame _ _ (ordL B) _ HM.out HN.out).mono ?_
 rintro e v1 ⟨rfl,hb⟩;replace HB:=Lib.hid (below_via HB.out hb);replace HBW:=Lib.hid (below_via HBW.out hb);replace HOx:=Lib.hid (HOx.out.below hb);replace HM:=Lib.hid (HM.out.below hb);replace HLW:=Lib.hid (Nat.le_trans HLW.out hb.size);replace HXb:=Lib.hid (HXb.out.below hb);replace HXw:=Lib.hid (HXw.out.below hb);replace HXx:=Lib.hid (HXx.out.below hb);clear hb;go_wp2_with fail
 first|refine⟨rfl,?u,hK.out _ _ ?_⟩|refine⟨?u,hK.out _ _ ?_⟩
 case u=>exact⟨⟨_,(⟨HB.out,HB.out.size,by simp⟩:Kept w.heap.size w w.heap.size [] v1),⟨HXb.out,HXw.out,HXx.out⟩⟩,rfl⟩
 clear hK K
 repeat (first|(go_big_quiet_want;(first|apply quiet_load_bx _ rfl rfl qb|apply quiet_load_bx _ rfl rfl qw|apply quiet_load_bx _ rfl rfl qx);(focus(simp[go_sem];rfl));go_big_quiet_on)|go_big_quiet_step (fail))
 refine wpQuiet_nil ?_
 repeat (first|(go_big_quiet_want;(first|apply quiet_load_bx _ rfl rfl qb|apply quiet_load_bx _ rfl rfl qw|apply quiet_load_bx _ rfl rfl qx);(focus(simp[go_sem];rfl));go_big_quiet_on)|go_big_quiet_step (fail))
 refine wpQuiet_nil ?_
 refine⟨fun K hK0=> ?_,trivial⟩
 have hK:=Lib.hid hK0;clear hK0;go_wp2_with fail
 with_reducible refine(rdrain s B _ (HR.out.below HB.out) HV.out).mono ?_
 rintro e v2 ⟨st,rfl,ho,hb⟩;replace HB:=Lib.hid (below_via HB.out hb);replace HBW:=Lib.hid (below_via HBW.out hb);replace HOx:=Lib.hid (HOx.out.below hb);replace HM:=Lib.hid (HM.out.below hb);replace HLW:=Lib.hid (Nat.le_trans HLW.out hb.size);replace HXb:=Lib.hid (HXb.out.below hb);replace HXw:=Lib.hid (HXw.out.below hb);replace HXx:=Lib.hid (HXx.out.below hb);have HRT:=Lib.hid ho.rd;clear ho;clear hb;go_wp2_with fail
 first|refine⟨rfl,?u,hK.out _ _ ?_⟩|refine⟨?u,hK.out _ _ ?_⟩
 case u=>exact⟨⟨_,(⟨HB.out,HB.out.size,by simp⟩:Kept w.heap.size w w.heap.size [] v2),⟨HXb.out,HXw.out,HXx.out⟩⟩,rfl⟩
 clear hK K
 refine⟨fun K hK0=> ?_,trivial⟩
 have hK:=Lib.hid hK0;clear hK0;go_wp2_with fail
 have hb0:=HB.out.size;have hbw0:=HBW.out.size;have hq1:w5.heap.size≤v2.heap.size:=Nat.le_trans HLH.out.2.1 HLW.out;have hq2:w.heap.size≤w4.heap.size:=HLH.out.2.2.2;have hq3:w3.heap.size≤w4.heap.size:=HLH.out.1;with_reducible refine(gives sx st s sw (drB B) B 0 (w4.heap.size) (w5.heap.size) _ HOx.out hq1 HRT.out (fun W hr=>HR.out.below (Rng.below HB.out hr hq2 hb0)) (fun W hr=>HRW.out.below (Rng.below HBW.out hr hq3 hbw0))).mono ?_
 rintro e v3 ⟨rfl,hr⟩;replace HB:=Lib.hid (Rng.below HB.out hr hq2 hb0);clear hb0 hbw0 hq1 hq2 hq3 hr HBW HOx HM HLW HXb HXw HXx HN HRT;go_wp2_with fail
 first|refine⟨rfl,hK.out _ _ ?_⟩|refine hK.out _ _ ?_
 clear hK K
 repeat (first|(go_big_quiet_want;(first|apply quiet_load_bx _ rfl rfl qb|apply quiet_load_bx _ rfl rfl qw|apply quiet_load_bx _ rfl rfl qx);(focus(simp[go_sem];rfl));go_big_quiet_on)|go_big_quiet_step (fail))
 refine wpQuiet_nil ?_
 refine⟨fun K hK0=> ?_,trivial⟩
 have hK:=Lib.hid hK0;clear hK0;go_wp2_with fail
 with_reducible refine(known _).mono ?_
 rintro e v4 ⟨rfl,hb⟩;replace HB:=Lib.hid (below_via HB.out hb);clear hb;go_wp2_with fail
 first|refine⟨rfl,hK.out _ _ ?_⟩|refine hK.out _ _ ?_
 clear hK K
 repeat (first|(go_big_quiet_want;(first|apply quiet_load_bx _ rfl rfl qb|apply quiet_load_bx _ rfl rfl qw|apply quiet_load_bx _ rfl rfl qx);(focus(simp[go_sem];rfl));go_big_quiet_on)|go_big_quiet_step (fail))
 refine wpQuiet_nil ?_;clear _ne qb qw qx;go_wp2_with fail
 go_returns
 exact⟨rfl,HB.out⟩
theorem wtd(s:Bs)(B:Bd)(w:World)(h:BdR w s B)(hi:B.I):Calls Try.prog 5 #[bv s B] w fun e w' =>e= .returned (.bool true)∧Below w.heap.size w w':=by
 by_cases hv:VB B
 ·exact wtd_ok s B w h hi hv
 ·exact wtd_bad s B w h hi hv
end Go.Proofs.Ytgkgbpapfjjkcaa
