/- The law about triggers that are collected: the walk. -/
import Derived.Test.YtgkgbpapfjjkcaaTLv
import Derived.Test.YtgkgbpapfjjkcaaTRc
import Derived.Deep.DeepCutAuto
import Derived.LoopTactic
import Derived.Deep.MidRow
namespace Go.Proofs.Ytgkgbpapfjjkcaa
open Go.RowKit Plain
set_option linter.unusedVariables false
set_option linter.unusedSimpArgs false

theorem collectK(v:Value)(cs:List (Cd×List (Int×Nat)))(s:Bs)(B:Bd)(ha:Option Addr)(hcp:Nat)(L:List Hp)(most:Int)(w:World)(X:Bd)(dn:Int)(hX:X=coB B (allL cs B L) most)(hd:dn=(allL cs B L).length-(room B (allL cs B L).length most:Nat))(hm:0≤most)(h:BdR w s B)(hv:VB B)(hc:CsR w v cs)(hl:Lt cs)(hh:Rw hpc 3 w (.slice ha L.length hcp) L)(hll:L.length≤210)(hid:∀x∈L,Plain.I x.id):Calls Try.prog 15 #[v,bv s B,.slice ha L.length hcp,.int .i64 most] w (BrP w X (.int .i64 dn) (.int .i64 0)):=by
 subst hX hd;exact collect_ok v cs s B ha hcp L most w hm h hv hc hl hh hll hid
theorem rcollectK(v:Value)(cs:List (Cd×List (Int×Nat)))(s:Bs)(B:Bd)(ha:Option Addr)(hcp:Nat)(L:List Hp)(most:Int)(w:World)(X:Bd)(dn:Int)(hX:X=coB B (allL cs B L) most)(hd:dn=(allL cs B L).length-(room B (allL cs B L).length most:Nat))(hm:0≤most)(h:BdR w s B)(hv:VB B)(hc:CsR w v cs)(hl:Lt cs)(hh:Rw hpc 3 w (.slice ha L.length hcp) L)(hll:L.length≤20):Calls Try.prog 18 #[v,bv s B,.slice ha L.length hcp,.int .i64 most] w (BrA w X (.int .i64 dn)):=by
 subst hX hd;exact rcollect v cs s B ha hcp L most w hm h hv hc hl hh hll
set_option maxRecDepth 100000 in
set_option maxHeartbeats 4000000 in
theorem wtc_neg(v:Value)(cs:List (Cd×List (Int×Nat)))(s:Bs)(B:Bd)(ha:Option Addr)(hcp:Nat)(L:List Hp)(most:Int)(w:World)(hc:CsR w v cs)(h:BdR w s B)(hi:B.I)(hh:Rw hpc 3 w (.slice ha L.length hcp) L)(hid:∀x∈L,Plain.I x.id)(hm:most<0):Calls Try.prog 4 #[v,bv s B,.slice ha L.length hcp,.int .i64 most] w fun e w' =>e= .returned (.bool true)∧Below w.heap.size w w':=by
 have HCS:=Lib.hid hc;have HR:=Lib.hid h;have HI:=Lib.hid hi;have HHS:=Lib.hid hh;have HID:=Lib.hid hid;have HMO:=Lib.hid hm;clear hc h hi hh hid;go_enter Try.func4,Try.ntmps4
 go_upto_region 1 with fail
 change Code.wp Try.prog _ _ _ (w.alloc (.cells (bcells s B) 34))
 obtain⟨wz,hwz⟩:∃W,W=(w.alloc (.cells (bcells s B) 34)):=⟨_,rfl⟩
 rw[←hwz];have b0:Below w.heap.size w wz:=by rw[hwz];exact(Below.refl _ _).alloc (Nat.le_refl _) _
 have HB:Hid (Below w.heap.size w wz):=Lib.hid b0;have HXb:Hid (Bx wz (w.heap.size) s B):=Lib.hid (by rw[hwz];exact(Ro.new w (bcells s B) 34));have HC1:Hid (w.heap.size+1≤wz.heap.size):=Lib.hid (by rw[hwz];simp);clear hwz b0;go_wp2_with fail
 with_reducible refine(llight v cs _ (HCS.out.below HB.out)).mono ?_
 rintro e w1 ⟨⟨r,rfl,hr⟩,hb⟩;have HC2:Hid (wz.heap.size≤w1.heap.size):=Lib.hid (hb.size);replace HB:=Lib.hid (below_via HB.out hb);replace HXb:=Lib.hid (HXb.out.below hb);clear hb
 cases r
 ·go_wp2_with fail
  with_reducible refine(known _).mono ?_
  rintro e w2 ⟨rfl,hb⟩;have HC3:Hid (w1.heap.size≤w2.heap.size):=Lib.hid (hb.size);replace HB:=Lib.hid (below_via HB.out hb);replace HXb:=Lib.hid (HXb.out.below hb);clear hb;go_wp2_with fail
  go_returns
  exact⟨rfl,HB.out⟩
 have HL:=Lib.hid (hr rfl);clear hr;go_wp2_with (first|(refine wpList_load_bx _ rfl rfl HXb.out (by kernel_rfl) ?_))
 with_reducible refine(bsmall s B _ (HR.out.below HB.out)).mono ?_
 rintro e w2 ⟨⟨r,rfl,hr⟩,hb⟩;have HC3:Hid (w1.heap.size≤w2.heap.size):=Lib.hid (hb.size);replace HB:=Lib.hid (below_via HB.out hb);replace HXb:=Lib.hid (HXb.out.below hb);clear hb
 cases r
 ·go_wp2_with fail
  with_reducible refine(known _).mono ?_
  rintro e w3 ⟨rfl,hb⟩;have HC4:Hid (w2.heap.size≤w3.heap.size):=Lib.hid (hb.size);replace HB:=Lib.hid (below_via HB.out hb);replace HXb:=Lib.hid (HXb.out.below hb);clear hb;go_wp2_with fail
  go_returns
  exact⟨rfl,HB.out⟩
 have HTY:=Lib.hid (hr rfl);have HSM:=Lib.hid (Tiny.sm HTY.out);have HTL:=Lib.hid (Tiny.tl HTY.out);clear hr
 by_cases hl20:20<L.length
 ·have t1:decide (L.length>20)=true:=decide_eq_true hl20
  have t1':decide ((L.length:Int)>20)=true:=decide_eq_true (by omega);go_wp2_with fail
  with_reducible refine(known _).mono ?_
  rintro e w3 ⟨rfl,hb⟩;have HC4:Hid (w2.heap.size≤w3.heap.size):=Lib.hid (hb.size);replace HB:=Lib.hid (below_via HB.out hb);replace HXb:=Lib.hid (HXb.out.below hb);clear hb;go_wp2_with fail
  go_returns
  exact⟨rfl,HB.out⟩
 have t1:decide (L.length>20)=false:=decide_eq_false hl20;have t1':decide ((L.length:Int)>20)=false:=decide_eq_false (by omega);have HLL:Hid (L.length≤20):=Lib.hid (by omega);clear hl20
 go_upto_region 3 with fail
 clear t1 t1';go_wp2_with (first|(refine wpList_load_bx _ rfl rfl HXb.out (by kernel_rfl) ?_))
 with_reducible refine(rcopy s B _ (HR.out.below HB.out) HSM.out HTL.out).mono ?_
 rintro e w3 ⟨sw,rfl,ho,hb⟩;have HC4:Hid (w2.heap.size≤w3.heap.size):=Lib.hid (hb.size);replace HB:=Lib.hid (below_via HB.out hb);replace HXb:=Lib.hid (HXb.out.below hb);have HOw:=Lib.hid ho;clear ho hb;go_wp2_with (first|(refine wpList_store_bh rfl _ _ rfl rfl rfl (heap_alloc_new _ _) rfl ?_))
 intro w4 hw0;have hbx:=boxed hw0.out
 obtain⟨nw,hn⟩:∃n,n=w3.heap.size:=⟨_,rfl⟩
 rw[←hn] at hbx ⊢
 have hb:=hbx.1;rw[hn] at hb
 clear hw0;replace HB:=Lib.hid (below_via HB.out hb);replace HXb:=Lib.hid (HXb.out.below hb);replace HOw:=Lib.hid (HOw.out.below hb);have HXw:Hid (Bx w4 nw sw (B)):=Lib.hid hbx.2;have HC5:Hid (w3.heap.size≤nw∧nw<w4.heap.size):=Lib.hid (⟨by omega,hbx.2.lt⟩);clear hbx hn hb;have HRW:=Lib.hid HOw.out.rd;have HBW:Hid (Below w4.heap.size w4 w4):=Lib.hid (Below.refl _ _);clear HOw
 go_upto_region 4 with fail
 go_wp2_with (first|(refine wpList_load_bx _ rfl rfl HXb.out (by kernel_rfl) ?_))
 with_reducible refine(collect_neg v cs s B ha hcp L most _ HMO.out).mono ?_
 rintro e w5 ⟨sx,rfl,ho,hb⟩;have HC6:Hid (w4.heap.size≤w5.heap.size):=Lib.hid (hb.size);replace HB:=Lib.hid (below_via HB.out hb);replace HXb:=Lib.hid (HXb.out.below hb);replace HXw:=Lib.hid (HXw.out.below hb);replace HBW:=Lib.hid (below_via HBW.out hb);have HOx:=Lib.hid ho;clear ho hb;go_wp2_with (first|(refine wpList_store_bh rfl _ _ rfl rfl rfl (heap_alloc_new _ _) rfl ?_))
 intro w6 hw0;have hbx:=boxed hw0.out
 obtain⟨nx,hn⟩:∃n,n=w5.heap.size:=⟨_,rfl⟩
 rw[←hn] at hbx ⊢
 have hb:=hbx.1;rw[hn] at hb
 clear hw0;replace HB:=Lib.hid (below_via HB.out hb);replace HXb:=Lib.hid (HXb.out.below hb);replace HXw:=Lib.hid (HXw.out.below hb);replace HOx:=Lib.hid (HOx.out.below hb);replace HBW:=Lib.hid (below_via HBW.out hb);have HXx:Hid (Bx w6 nx sx (zeroB)):=Lib.hid hbx.2;have HC7:Hid (w5.heap.size≤nx∧nx<w6.heap.size):=Lib.hid (⟨by omega,hbx.2.lt⟩);clear hbx hn hb
 go_upto_region 5 with fail
 go_wp2_with (first|(refine wpList_load_bx _ rfl rfl HXb.out (by kernel_rfl) ?_))
 with_reducible refine(brvalid s B _ (HR.out.below HB.out) HI.out HSM.out).mono ?_
 rintro e w7 ⟨⟨r,rfl,hr⟩,hb⟩;have HC8:Hid (w6.heap.size≤w7.heap.size):=Lib.hid (hb.size);replace HB:=Lib.hid (below_via HB.out hb);replace HXb:=Lib.hid (HXb.out.below hb);replace HXw:=Lib.hid (HXw.out.below hb);replace HXx:=Lib.hid (HXx.out.below hb);replace HOx:=Lib.hid (HOx.out.below hb);replace HBW:=Lib.hid (below_via HBW.out hb);clear hr hb;have tm:decide (most<0)=true:=decide_eq_true HMO.out;have HTM:=Lib.hid tm
 cases r
 ·go_upto_region 6 with fail
  clear tm;go_wp2_with (first|(refine wpList_load_bx _ rfl rfl HXx.out (by kernel_rfl) ?_)|(refine wpList_load_bx _ rfl rfl HXb.out (by kernel_rfl) ?_)|(refine wpList_load_bx _ rfl rfl HXw.out (by kernel_rfl) ?_))
  have hb0:=HB.out.size;have hbw0:=HBW.out.size;have hq1:w5.heap.size≤w7.heap.size:=(by(have o0:=HC1.out;have o1:=HC2.out;have o2:=HC3.out;have o3:=HC4.out;have o4:=HC5.out;have o5:=HC6.out;have o6:=HC7.out;have o7:=HC8.out;have x0:=HXb.out.lt;have x1:=HXw.out.lt;have x2:=HXx.out.lt;omega));have hq2:w.heap.size≤w4.heap.size:=(by(have o0:=HC1.out;have o1:=HC2.out;have o2:=HC3.out;have o3:=HC4.out;have o4:=HC5.out;have o5:=HC6.out;have o6:=HC7.out;have o7:=HC8.out;have x0:=HXb.out.lt;have x1:=HXw.out.lt;have x2:=HXx.out.lt;omega));with_reducible refine(givesV sx s sw B 2 (w4.heap.size) (w5.heap.size) _ (by with_unfolding_all rfl) HOx.out hq1 (fun W hr=>HR.out.below (Rng.below HB.out hr hq2 hb0)) (fun W hr=>HRW.out.below (Rng.below HBW.out hr (Nat.le_refl _) hbw0))).mono ?_
  rintro e w8 ⟨rfl,hr⟩;replace HB:=Lib.hid (Rng.below HB.out hr hq2 hb0);clear hb0 hbw0 hq1 hq2 hr;go_wp2_with fail
  with_reducible refine(known _).mono ?_
  rintro e w9 ⟨rfl,hb⟩;have HC9:Hid (w8.heap.size≤w9.heap.size):=Lib.hid (hb.size);replace HB:=Lib.hid (below_via HB.out hb);clear hb;go_wp2_with fail
  go_returns
  exact⟨rfl,HB.out⟩
 ·go_upto_region 6 with fail
  clear tm;go_wp2_with (first|(refine wpList_load_bx _ rfl rfl HXx.out (by kernel_rfl) ?_)|(refine wpList_load_bx _ rfl rfl HXb.out (by kernel_rfl) ?_)|(refine wpList_load_bx _ rfl rfl HXw.out (by kernel_rfl) ?_))
  have hb0:=HB.out.size;have hbw0:=HBW.out.size;have hq1:w5.heap.size≤w7.heap.size:=(by(have o0:=HC1.out;have o1:=HC2.out;have o2:=HC3.out;have o3:=HC4.out;have o4:=HC5.out;have o5:=HC6.out;have o6:=HC7.out;have o7:=HC8.out;have x0:=HXb.out.lt;have x1:=HXw.out.lt;have x2:=HXx.out.lt;omega));have hq2:w.heap.size≤w4.heap.size:=(by(have o0:=HC1.out;have o1:=HC2.out;have o2:=HC3.out;have o3:=HC4.out;have o4:=HC5.out;have o5:=HC6.out;have o6:=HC7.out;have o7:=HC8.out;have x0:=HXb.out.lt;have x1:=HXw.out.lt;have x2:=HXx.out.lt;omega));with_reducible refine(givesV sx s sw B 2 (w4.heap.size) (w5.heap.size) _ (by with_unfolding_all rfl) HOx.out hq1 (fun W hr=>HR.out.below (Rng.below HB.out hr hq2 hb0)) (fun W hr=>HRW.out.below (Rng.below HBW.out hr (Nat.le_refl _) hbw0))).mono ?_
  rintro e w8 ⟨rfl,hr⟩;replace HB:=Lib.hid (Rng.below HB.out hr hq2 hb0);clear hb0 hbw0 hq1 hq2 hr;go_wp2_with fail
  with_reducible refine(known _).mono ?_
  rintro e w9 ⟨rfl,hb⟩;have HC9:Hid (w8.heap.size≤w9.heap.size):=Lib.hid (hb.size);replace HB:=Lib.hid (below_via HB.out hb);clear hb;go_wp2_with fail
  go_returns
  exact⟨rfl,HB.out⟩
set_option maxRecDepth 100000 in
set_option maxHeartbeats 4000000 in
theorem wtc_bad(v:Value)(cs:List (Cd×List (Int×Nat)))(s:Bs)(B:Bd)(ha:Option Addr)(hcp:Nat)(L:List Hp)(most:Int)(w:World)(hc:CsR w v cs)(h:BdR w s B)(hi:B.I)(hh:Rw hpc 3 w (.slice ha L.length hcp) L)(hid:∀x∈L,Plain.I x.id)(hm:0≤most)(hv:¬VB B):Calls Try.prog 4 #[v,bv s B,.slice ha L.length hcp,.int .i64 most] w fun e w' =>e= .returned (.bool true)∧Below w.heap.size w w':=by
 have HCS:=Lib.hid hc;have HR:=Lib.hid h;have HI:=Lib.hid hi;have HHS:=Lib.hid hh;have HID:=Lib.hid hid;have HMO:=Lib.hid hm;have HV:=Lib.hid hv;clear hc h hi hh hid hv;go_enter Try.func4,Try.ntmps4
 go_upto_region 1 with fail
 change Code.wp Try.prog _ _ _ (w.alloc (.cells (bcells s B) 34))
 obtain⟨wz,hwz⟩:∃W,W=(w.alloc (.cells (bcells s B) 34)):=⟨_,rfl⟩
 rw[←hwz];have b0:Below w.heap.size w wz:=by rw[hwz];exact(Below.refl _ _).alloc (Nat.le_refl _) _
 have HB:Hid (Below w.heap.size w wz):=Lib.hid b0;have HXb:Hid (Bx wz (w.heap.size) s B):=Lib.hid (by rw[hwz];exact(Ro.new w (bcells s B) 34));have HC1:Hid (w.heap.size+1≤wz.heap.size):=Lib.hid (by rw[hwz];simp);clear hwz b0;go_wp2_with fail
 with_reducible refine(llight v cs _ (HCS.out.below HB.out)).mono ?_
 rintro e w1 ⟨⟨r,rfl,hr⟩,hb⟩;have HC2:Hid (wz.heap.size≤w1.heap.size):=Lib.hid (hb.size);replace HB:=Lib.hid (below_via HB.out hb);replace HXb:=Lib.hid (HXb.out.below hb);clear hb
 cases r
 ·go_wp2_with fail
  with_reducible refine(known _).mono ?_
  rintro e w2 ⟨rfl,hb⟩;have HC3:Hid (w1.heap.size≤w2.heap.size):=Lib.hid (hb.size);replace HB:=Lib.hid (below_via HB.out hb);replace HXb:=Lib.hid (HXb.out.below hb);clear hb;go_wp2_with fail
  go_returns
  exact⟨rfl,HB.out⟩
 have HL:=Lib.hid (hr rfl);clear hr;go_wp2_with (first|(refine wpList_load_bx _ rfl rfl HXb.out (by kernel_rfl) ?_))
 with_reducible refine(bsmall s B _ (HR.out.below HB.out)).mono ?_
 rintro e w2 ⟨⟨r,rfl,hr⟩,hb⟩;have HC3:Hid (w1.heap.size≤w2.heap.size):=Lib.hid (hb.size);replace HB:=Lib.hid (below_via HB.out hb);replace HXb:=Lib.hid (HXb.out.below hb);clear hb
 cases r
 ·go_wp2_with fail
  with_reducible refine(known _).mono ?_
  rintro e w3 ⟨rfl,hb⟩;have HC4:Hid (w2.heap.size≤w3.heap.size):=Lib.hid (hb.size);replace HB:=Lib.hid (below_via HB.out hb);replace HXb:=Lib.hid (HXb.out.below hb);clear hb;go_wp2_with fail
  go_returns
  exact⟨rfl,HB.out⟩
 have HTY:=Lib.hid (hr rfl);have HSM:=Lib.hid (Tiny.sm HTY.out);have HTL:=Lib.hid (Tiny.tl HTY.out);clear hr
 by_cases hl20:20<L.length
 ·have t1:decide (L.length>20)=true:=decide_eq_true hl20
  have t1':decide ((L.length:Int)>20)=true:=decide_eq_true (by omega);go_wp2_with fail
  with_reducible refine(known _).mono ?_
  rintro e w3 ⟨rfl,hb⟩;have HC4:Hid (w2.heap.size≤w3.heap.size):=Lib.hid (hb.size);replace HB:=Lib.hid (below_via HB.out hb);replace HXb:=Lib.hid (HXb.out.below hb);clear hb;go_wp2_with fail
  go_returns
  exact⟨rfl,HB.out⟩
 have t1:decide (L.length>20)=false:=decide_eq_false hl20;have t1':decide ((L.length:Int)>20)=false:=decide_eq_false (by omega);have HLL:Hid (L.length≤20):=Lib.hid (by omega);clear hl20
 go_upto_region 3 with fail
 clear t1 t1';go_wp2_with (first|(refine wpList_load_bx _ rfl rfl HXb.out (by kernel_rfl) ?_))
 with_reducible refine(rcopy s B _ (HR.out.below HB.out) HSM.out HTL.out).mono ?_
 rintro e w3 ⟨sw,rfl,ho,hb⟩;have HC4:Hid (w2.heap.size≤w3.heap.size):=Lib.hid (hb.size);replace HB:=Lib.hid (below_via HB.out hb);replace HXb:=Lib.hid (HXb.out.below hb);have HOw:=Lib.hid ho;clear ho hb;go_wp2_with (first|(refine wpList_store_bh rfl _ _ rfl rfl rfl (heap_alloc_new _ _) rfl ?_))
 intro w4 hw0;have hbx:=boxed hw0.out
 obtain⟨nw,hn⟩:∃n,n=w3.heap.size:=⟨_,rfl⟩
 rw[←hn] at hbx ⊢
 have hb:=hbx.1;rw[hn] at hb
 clear hw0;replace HB:=Lib.hid (below_via HB.out hb);replace HXb:=Lib.hid (HXb.out.below hb);replace HOw:=Lib.hid (HOw.out.below hb);have HXw:Hid (Bx w4 nw sw (B)):=Lib.hid hbx.2;have HC5:Hid (w3.heap.size≤nw∧nw<w4.heap.size):=Lib.hid (⟨by omega,hbx.2.lt⟩);clear hbx hn hb;have HRW:=Lib.hid HOw.out.rd;have HBW:Hid (Below w4.heap.size w4 w4):=Lib.hid (Below.refl _ _);clear HOw
 go_upto_region 4 with fail
 go_wp2_with (first|(refine wpList_load_bx _ rfl rfl HXb.out (by kernel_rfl) ?_))
 with_reducible refine(collect_bad v cs s B ha hcp L most _ HMO.out (HR.out.below HB.out) HI.out HSM.out HV.out).mono ?_
 rintro e w5 ⟨sx,rfl,ho,hb⟩;have HC6:Hid (w4.heap.size≤w5.heap.size):=Lib.hid (hb.size);replace HB:=Lib.hid (below_via HB.out hb);replace HXb:=Lib.hid (HXb.out.below hb);replace HXw:=Lib.hid (HXw.out.below hb);replace HBW:=Lib.hid (below_via HBW.out hb);have HOx:=Lib.hid ho;clear ho hb;go_wp2_with (first|(refine wpList_store_bh rfl _ _ rfl rfl rfl (heap_alloc_new _ _) rfl ?_))
 intro w6 hw0;have hbx:=boxed hw0.out
 obtain⟨nx,hn⟩:∃n,n=w5.heap.size:=⟨_,rfl⟩
 rw[←hn] at hbx ⊢
 have hb:=hbx.1;rw[hn] at hb
 clear hw0;replace HB:=Lib.hid (below_via HB.out hb);replace HXb:=Lib.hid (HXb.out.below hb);replace HXw:=Lib.hid (HXw.out.below hb);replace HOx:=Lib.hid (HOx.out.below hb);replace HBW:=Lib.hid (below_via HBW.out hb);have HXx:Hid (Bx w6 nx sx (zeroB)):=Lib.hid hbx.2;have HC7:Hid (w5.heap.size≤nx∧nx<w6.heap.size):=Lib.hid (⟨by omega,hbx.2.lt⟩);clear hbx hn hb
 go_upto_region 5 with fail
 go_wp2_with (first|(refine wpList_load_bx _ rfl rfl HXb.out (by kernel_rfl) ?_))
 with_reducible refine(brvalid s B _ (HR.out.below HB.out) HI.out HSM.out).mono ?_
 rintro e w7 ⟨⟨r,rfl,hr⟩,hb⟩;have HC8:Hid (w6.heap.size≤w7.heap.size):=Lib.hid (hb.size);replace HB:=Lib.hid (below_via HB.out hb);replace HXb:=Lib.hid (HXb.out.below hb);replace HXw:=Lib.hid (HXw.out.below hb);replace HXx:=Lib.hid (HXx.out.below hb);replace HOx:=Lib.hid (HOx.out.below hb);replace HBW:=Lib.hid (below_via HBW.out hb);obtain rfl:r=false:=by cases r with|false=>rfl|true=>exact absurd (hr.1 rfl) HV.out
 clear hr hb
 go_upto_region 6 with fail
 go_wp2_with (first|(refine wpList_load_bx _ rfl rfl HXx.out (by kernel_rfl) ?_)|(refine wpList_load_bx _ rfl rfl HXb.out (by kernel_rfl) ?_)|(refine wpList_load_bx _ rfl rfl HXw.out (by kernel_rfl) ?_))
 have hb0:=HB.out.size;have hbw0:=HBW.out.size;have hq1:w5.heap.size≤w7.heap.size:=(by(have o0:=HC1.out;have o1:=HC2.out;have o2:=HC3.out;have o3:=HC4.out;have o4:=HC5.out;have o5:=HC6.out;have o6:=HC7.out;have o7:=HC8.out;have x0:=HXb.out.lt;have x1:=HXw.out.lt;have x2:=HXx.out.lt;omega));have hq2:w.heap.size≤w4.heap.size:=(by(have o0:=HC1.out;have o1:=HC2.out;have o2:=HC3.out;have o3:=HC4.out;have o4:=HC5.out;have o5:=HC6.out;have o6:=HC7.out;have o7:=HC8.out;have x0:=HXb.out.lt;have x1:=HXw.out.lt;have x2:=HXx.out.lt;omega));with_reducible refine(givesV sx s sw B 2 (w4.heap.size) (w5.heap.size) _ (by with_unfolding_all rfl) HOx.out hq1 (fun W hr=>HR.out.below (Rng.below HB.out hr hq2 hb0)) (fun W hr=>HRW.out.below (Rng.below HBW.out hr (Nat.le_refl _) hbw0))).mono ?_
 rintro e w8 ⟨rfl,hr⟩;replace HB:=Lib.hid (Rng.below HB.out hr hq2 hb0);clear hb0 hbw0 hq1 hq2 hr;go_wp2_with fail
 with_reducible refine(known _).mono ?_
 rintro e w9 ⟨rfl,hb⟩;have HC9:Hid (w8.heap.size≤w9.heap.size):=Lib.hid (hb.size);replace HB:=Lib.hid (below_via HB.out hb);clear hb;go_wp2_with fail
 go_returns
 exact⟨rfl,HB.out⟩
set_option maxRecDepth 100000 in
set_option maxHeartbeats 4000000 in
theorem wtc_ok(v:Value)(cs:List (Cd×List (Int×Nat)))(s:Bs)(B:Bd)(ha:Option Addr)(hcp:Nat)(L:List Hp)(most:Int)(w:World)(hc:CsR w v cs)(h:BdR w s B)(hi:B.I)(hh:Rw hpc 3 w (.slice ha L.length hcp) L)(hid:∀x∈L,Plain.I x.id)(hm:0≤most)(hv:VB B):Calls Try.prog 4 #[v,bv s B,.slice ha L.length hcp,.int .i64 most] w fun e w' =>e= .returned (.bool true)∧Below w.heap.size w w':=by
 have HCS:=Lib.hid hc;have HR:=Lib.hid h;have HI:=Lib.hid hi;have HHS:=Lib.hid hh;have HID:=Lib.hid hid;have HMO:=Lib.hid hm;have HV:=Lib.hid hv;clear hc h hi hh hid hv;go_enter Try.func4,Try.ntmps4
 go_upto_region 1 with fail
 change Code.wp Try.prog _ _ _ (w.alloc (.cells (bcells s B) 34))
 obtain⟨wz,hwz⟩:∃W,W=(w.alloc (.cells (bcells s B) 34)):=⟨_,rfl⟩
 rw[←hwz];have b0:Below w.heap.size w wz:=by rw[hwz];exact(Below.refl _ _).alloc (Nat.le_refl _) _
 have HB:Hid (Below w.heap.size w wz):=Lib.hid b0;have HXb:Hid (Bx wz (w.heap.size) s B):=Lib.hid (by rw[hwz];exact(Ro.new w (bcells s B) 34));have HC1:Hid (w.heap.size+1≤wz.heap.size):=Lib.hid (by rw[hwz];simp);clear hwz b0;go_wp2_with fail
 with_reducible refine(llight v cs _ (HCS.out.below HB.out)).mono ?_
 rintro e w1 ⟨⟨r,rfl,hr⟩,hb⟩;have HC2:Hid (wz.heap.size≤w1.heap.size):=Lib.hid (hb.size);replace HB:=Lib.hid (below_via HB.out hb);replace HXb:=Lib.hid (HXb.out.below hb);clear hb
 cases r
 ·go_wp2_with fail
  with_reducible refine(known _).mono ?_
  rintro e w2 ⟨rfl,hb⟩;have HC3:Hid (w1.heap.size≤w2.heap.size):=Lib.hid (hb.size);replace HB:=Lib.hid (below_via HB.out hb);replace HXb:=Lib.hid (HXb.out.below hb);clear hb;go_wp2_with fail
  go_returns
  exact⟨rfl,HB.out⟩
 have HL:=Lib.hid (hr rfl);clear hr;go_wp2_with (first|(refine wpList_load_bx _ rfl rfl HXb.out (by kernel_rfl) ?_))
 with_reducible refine(bsmall s B _ (HR.out.below HB.out)).mono ?_
 rintro e w2 ⟨⟨r,rfl,hr⟩,hb⟩;have HC3:Hid (w1.heap.size≤w2.heap.size):=Lib.hid (hb.size);replace HB:=Lib.hid (below_via HB.out hb);replace HXb:=Lib.hid (HXb.out.below hb);clear hb
 cases r
 ·go_wp2_with fail
  with_reducible refine(known _).mono ?_
  rintro e w3 ⟨rfl,hb⟩;have HC4:Hid (w2.heap.size≤w3.heap.size):=Lib.hid (hb.size);replace HB:=Lib.hid (below_via HB.out hb);replace HXb:=Lib.hid (HXb.out.below hb);clear hb;go_wp2_with fail
  go_returns
  exact⟨rfl,HB.out⟩
 have HTY:=Lib.hid (hr rfl);have HSM:=Lib.hid (Tiny.sm HTY.out);have HTL:=Lib.hid (Tiny.tl HTY.out);clear hr
 by_cases hl20:20<L.length
 ·have t1:decide (L.length>20)=true:=decide_eq_true hl20
  have t1':decide ((L.length:Int)>20)=true:=decide_eq_true (by omega);go_wp2_with fail
  with_reducible refine(known _).mono ?_
  rintro e w3 ⟨rfl,hb⟩;have HC4:Hid (w2.heap.size≤w3.heap.size):=Lib.hid (hb.size);replace HB:=Lib.hid (below_via HB.out hb);replace HXb:=Lib.hid (HXb.out.below hb);clear hb;go_wp2_with fail
  go_returns
  exact⟨rfl,HB.out⟩
 have t1:decide (L.length>20)=false:=decide_eq_false hl20;have t1':decide ((L.length:Int)>20)=false:=decide_eq_false (by omega);have HLL:Hid (L.length≤20):=Lib.hid (by omega);clear hl20
 go_upto_region 3 with fail
 clear t1 t1';go_wp2_with (first|(refine wpList_load_bx _ rfl rfl HXb.out (by kernel_rfl) ?_))
 with_reducible refine(rcopy s B _ (HR.out.below HB.out) HSM.out HTL.out).mono ?_
 rintro e w3 ⟨sw,rfl,ho,hb⟩;have HC4:Hid (w2.heap.size≤w3.heap.size):=Lib.hid (hb.size);replace HB:=Lib.hid (below_via HB.out hb);replace HXb:=Lib.hid (HXb.out.below hb);have HOw:=Lib.hid ho;clear ho hb;go_wp2_with (first|(refine wpList_store_bh rfl _ _ rfl rfl rfl (heap_alloc_new _ _) rfl ?_))
 intro w4 hw0;have hbx:=boxed hw0.out
 obtain⟨nw,hn⟩:∃n,n=w3.heap.size:=⟨_,rfl⟩
 rw[←hn] at hbx ⊢
 have hb:=hbx.1;rw[hn] at hb
 clear hw0;replace HB:=Lib.hid (below_via HB.out hb);replace HXb:=Lib.hid (HXb.out.below hb);replace HOw:=Lib.hid (HOw.out.below hb);have HXw:Hid (Bx w4 nw sw (B)):=Lib.hid hbx.2;have HC5:Hid (w3.heap.size≤nw∧nw<w4.heap.size):=Lib.hid (⟨by omega,hbx.2.lt⟩);clear hbx hn hb;have HRW:=Lib.hid HOw.out.rd;have HBW:Hid (Below w4.heap.size w4 w4):=Lib.hid (Below.refl _ _);clear HOw
 go_upto_region 4 with fail
 go_wp2_with (first|(refine wpList_load_bx _ rfl rfl HXb.out (by kernel_rfl) ?_))
 obtain⟨X,hX⟩:∃X,X=coB B (allL cs B L) most:=⟨_,rfl⟩
 obtain⟨dn,hdn⟩:∃d:Int,d=(allL cs B L).length-(room B (allL cs B L).length most:Nat):=⟨_,rfl⟩
 have HXE:=Lib.hid hX;have HDN:=Lib.hid hdn;clear hX hdn;with_reducible refine(collectK v cs s B ha hcp L most _ X dn HXE.out HDN.out HMO.out (HR.out.below HB.out) HV.out (HCS.out.below HB.out) HL.out (HHS.out.below HB.out) (Nat.le_trans HLL.out (by omega)) HID.out).mono ?_
 rintro e w5 ⟨sx,rfl,ho,hb⟩;have HC6:Hid (w4.heap.size≤w5.heap.size):=Lib.hid (hb.size);replace HB:=Lib.hid (below_via HB.out hb);replace HXb:=Lib.hid (HXb.out.below hb);replace HXw:=Lib.hid (HXw.out.below hb);replace HBW:=Lib.hid (below_via HBW.out hb);have HOx:=Lib.hid ho;clear ho hb;go_wp2_with (first|(refine wpList_store_bh rfl _ _ rfl rfl rfl (heap_alloc_new _ _) rfl ?_))
 intro w6 hw0;have hbx:=boxed hw0.out
 obtain⟨nx,hn⟩:∃n,n=w5.heap.size:=⟨_,rfl⟩
 rw[←hn] at hbx ⊢
 have hb:=hbx.1;rw[hn] at hb
 clear hw0;replace HB:=Lib.hid (below_via HB.out hb);replace HXb:=Lib.hid (HXb.out.below hb);replace HXw:=Lib.hid (HXw.out.below hb);replace HOx:=Lib.hid (HOx.out.below hb);replace HBW:=Lib.hid (below_via HBW.out hb);have HXx:Hid (Bx w6 nx sx (X)):=Lib.hid hbx.2;have HC7:Hid (w5.heap.size≤nx∧nx<w6.heap.size):=Lib.hid (⟨by omega,hbx.2.lt⟩);clear hbx hn hb
 go_upto_region 5 with fail
 go_wp2_with (first|(refine wpList_load_bx _ rfl rfl HXb.out (by kernel_rfl) ?_))
 with_reducible refine(brvalid s B _ (HR.out.below HB.out) HI.out HSM.out).mono ?_
 rintro e w7 ⟨⟨r,rfl,hr⟩,hb⟩;have HC8:Hid (w6.heap.size≤w7.heap.size):=Lib.hid (hb.size);replace HB:=Lib.hid (below_via HB.out hb);replace HXb:=Lib.hid (HXb.out.below hb);replace HXw:=Lib.hid (HXw.out.below hb);replace HXx:=Lib.hid (HXx.out.below hb);replace HOx:=Lib.hid (HOx.out.below hb);replace HBW:=Lib.hid (below_via HBW.out hb);obtain rfl:r=true:=hr.2 HV.out;clear hr hb;have tm:decide (most<0)=false:=decide_eq_false (by have:=HMO.out;omega)
 go_upto_region 7 with fail
 clear tm;go_wp2_with (first|(refine wpList_load_bx _ rfl rfl HXb.out (by kernel_rfl) ?_))
 with_reducible refine(rcollectK v cs s B ha hcp L most _ X dn HXE.out HDN.out HMO.out (HR.out.below HB.out) HV.out (HCS.out.below HB.out) HL.out (HHS.out.below HB.out) HLL.out).mono ?_
 rintro e w8 ⟨st,rfl,ho,hb⟩;have HC9:Hid (w7.heap.size≤w8.heap.size):=Lib.hid (hb.size);replace HB:=Lib.hid (below_via HB.out hb);replace HXb:=Lib.hid (HXb.out.below hb);replace HXw:=Lib.hid (HXw.out.below hb);replace HXx:=Lib.hid (HXx.out.below hb);replace HOx:=Lib.hid (HOx.out.below hb);replace HBW:=Lib.hid (below_via HBW.out hb);have HOt:=Lib.hid ho;clear ho hb;go_wp2_with (first|(refine wpList_store_bh rfl _ _ rfl rfl rfl (heap_alloc_new _ _) rfl ?_))
 intro w9 hw0;have hbx:=boxed hw0.out
 obtain⟨nt,hn⟩:∃n,n=w8.heap.size:=⟨_,rfl⟩
 rw[←hn] at hbx ⊢
 have hb:=hbx.1;rw[hn] at hb
 clear hw0;replace HB:=Lib.hid (below_via HB.out hb);replace HXb:=Lib.hid (HXb.out.below hb);replace HXw:=Lib.hid (HXw.out.below hb);replace HXx:=Lib.hid (HXx.out.below hb);replace HOx:=Lib.hid (HOx.out.below hb);replace HOt:=Lib.hid (HOt.out.below hb);replace HBW:=Lib.hid (below_via HBW.out hb);have HXt:Hid (Bx w9 nt st (X)):=Lib.hid hbx.2;have HC10:Hid (w8.heap.size≤nt∧nt<w9.heap.size):=Lib.hid (⟨by omega,hbx.2.lt⟩);clear hbx hn hb
 go_upto_region 8 with fail
 have td:(dn==dn)=true:=by simp
 go_wp2_with (first|(refine wpList_load_bx _ rfl rfl HXx.out (by kernel_rfl) ?_)|(refine wpList_load_bx _ rfl rfl HXt.out (by kernel_rfl) ?_)|(refine wpList_load_bx _ rfl rfl HXb.out (by kernel_rfl) ?_)|(refine wpList_load_bx _ rfl rfl HXw.out (by kernel_rfl) ?_))
 clear td;have hb0:=HB.out.size;have hbw0:=HBW.out.size;have hq1:w5.heap.size≤w9.heap.size:=(by(have o0:=HC1.out;have o1:=HC2.out;have o2:=HC3.out;have o3:=HC4.out;have o4:=HC5.out;have o5:=HC6.out;have o6:=HC7.out;have o7:=HC8.out;have o8:=HC9.out;have o9:=HC10.out;have x0:=HXb.out.lt;have x1:=HXw.out.lt;have x2:=HXx.out.lt;have x3:=HXt.out.lt;omega));have hq2:w.heap.size≤w4.heap.size:=(by(have o0:=HC1.out;have o1:=HC2.out;have o2:=HC3.out;have o3:=HC4.out;have o4:=HC5.out;have o5:=HC6.out;have o6:=HC7.out;have o7:=HC8.out;have o8:=HC9.out;have o9:=HC10.out;have x0:=HXb.out.lt;have x1:=HXw.out.lt;have x2:=HXx.out.lt;have x3:=HXt.out.lt;omega));with_reducible refine(gives sx st s sw (X) B 0 (w4.heap.size) (w5.heap.size) _ HOx.out hq1 HOt.out.rd (fun W hr=>HR.out.below (Rng.below HB.out hr hq2 hb0)) (fun W hr=>HRW.out.below (Rng.below HBW.out hr (Nat.le_refl _) hbw0))).mono ?_
 rintro e w10 ⟨rfl,hr⟩;replace HB:=Lib.hid (Rng.below HB.out hr hq2 hb0);clear hb0 hbw0 hq1 hq2 hr;go_wp2_with fail
 with_reducible refine(known _).mono ?_
 rintro e w11 ⟨rfl,hb⟩;have HC11:Hid (w10.heap.size≤w11.heap.size):=Lib.hid (hb.size);replace HB:=Lib.hid (below_via HB.out hb);clear hb;go_wp2_with fail
 go_returns
 exact⟨rfl,HB.out⟩
theorem wtc(v:Value)(cs:List (Cd×List (Int×Nat)))(s:Bs)(B:Bd)(ha:Option Addr)(hcp:Nat)(L:List Hp)(most:Int)(w:World)(hc:CsR w v cs)(h:BdR w s B)(hi:B.I)(hh:Rw hpc 3 w (.slice ha L.length hcp) L)(hid:∀x∈L,Plain.I x.id):Calls Try.prog 4 #[v,bv s B,.slice ha L.length hcp,.int .i64 most] w fun e w' =>e= .returned (.bool true)∧Below w.heap.size w w':=by
 by_cases hm:most<0
 ·exact wtc_neg v cs s B ha hcp L most w hc h hi hh hid hm
 ·by_cases hv:VB B
  ·exact wtc_ok v cs s B ha hcp L most w hc h hi hh hid (by omega) hv
  ·exact wtc_bad v cs s B ha hcp L most w hc h hi hh hid (by omega) hv
end Go.Proofs.Ytgkgbpapfjjkcaa
