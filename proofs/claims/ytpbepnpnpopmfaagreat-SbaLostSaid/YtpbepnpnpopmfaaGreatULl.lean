/- The law about lost seats: the walk. -/
import Derived.Test.YtpbepnpnpopmfaaGreatUKn
import Derived.Test.YtpbepnpnpopmfaaGreatTLi
import Derived.Test.YtpbepnpnpopmfaaGreatBLs
import Derived.Test.YtpbepnpnpopmfaaGreatURt
import Derived.Deep.DeepCutAuto
import Derived.LoopTactic
import Derived.Deep.MidRow
open Go.RowKit Go.Proofs.YtpbepnpnpopmfaaGreat
set_option maxRecDepth 100000
set_option maxHeartbeats 4000000
namespace Go.Proofs.YtpbepnpnpopmfaaGreat
open Plain
set_option linter.unusedVariables false
set_option linter.unusedSimpArgs false

theorem rg5_3{P:Program}{B n:Nat}{w0:World}{L:List (Nat×Nat×Value)}{E F:World->Prop}{id:Nat}{Q:Exit->Act->World->Prop}{a:Act}{w:World}{A:Array Oper}{o0 o1 o2 o3 o4 o5 o6 o7 o8 o9 o10 o11 o12 o13 o14 o15 o16 o17:Oper}(hm:P.follows .mixedOrders=true)(hA:A=[o0,o1,o2,o3,o4,o5,o6,o7,o8,o9,o10,o11,o12,o13,o14,o15,o16,o17].toArray)(hB:regOk A [0,2,7,10] [4,5,6,9,12,13,14,16,17] (.rs [0,2] (.alt 1 (.alt 3 (.fs [4,5,6,9] (.rs [7,10] (.alt 8 (.altc 11 (.fs [12,13,14] (.altc 15 (.fs [16,17] .done) .stop)) .stop) .stop))) .stop) .stop))=true)(c:RC B w0 n L E F w)
  (h:∀wk,Kept B w0 n L wk->E wk->F wk->wpQuiet P A (fun w' =>∃s:KX B w0 n L E,w' =s.val) (fun a0=>((∀K1:Act->World->Prop,(∀a1 w1,((∀K2:Act->World->Prop,(∀a2 w2,wpQuiet P A (fun _=>True) (fun a3=>wpQuiet P A (fun w' =>∃s:KX B w0 n L E,w' =s.val) (fun a4=>((∀K5:Act->World->Prop,(∀a5 w5,((∀K6:Act->World->Prop,(∀a6 w6,wpQuiet P A (fun _=>True) (fun a7=>((∀K8:Act->World->Prop,(∀a8 w8,wpQuiet P A (fun _=>True) (fun a9=>Q .normal a9 w8) [o16,o17] a8->K8 a8 w8)->wpList P A (fun e a8 w8=>e= .normal/\K8 a8 w8) [o15] a7 w6)/\True)) [o12,o13,o14] a6->K6 a6 w6)->wpList P A (fun e a6 w6=>e= .normal/\K6 a6 w6) [o11] a5 w5)/\True)->K5 a5 w5)->wpList P A (fun e a5 w5=>e= .normal/\(∃s:KX B w0 n L E,w5=s.val)/\K5 a5 w5) [o8] a4 w2)/\True)) [o7,o10] a3) [o4,o5,o6,o9] a2->K2 a2 w2)->wpList P A (fun e a2 w2=>e= .normal/\(∃s:KX B w0 n L E,w2=s.val)/\K2 a2 w2) [o3] a1 w1)/\True)->K1 a1 w1)->wpList P A (fun e a1 w1=>e= .normal/\(∃s:KX B w0 n L E,w1=s.val)/\K1 a1 w1) [o1] a0 wk)/\True)) [o0,o2] a):(Code.region id A true).wp P Q a w:=by
 subst hA;exact wp_reg _ _ _ hm hB c (fun wk k e f=>have g:=h wk k e f;Scr.of_rs _ _ rfl g fun _ g=>(Scr.of_alt rfl (g.1 _ fun _ _ g=>g) (fun _ _ g=>(Scr.of_alt rfl (g.1 _ fun _ _ g=>g) (fun _ _ g=>Scr.of_fs _ _ rfl g fun _ g=>Scr.of_rs _ _ rfl g fun _ g=>(Scr.of_alt rfl (g.1 _ fun _ _ g=>g) (fun _ _ g=>(Scr.of_altc rfl (g.1 _ fun _ _ g=>g) (fun _ _ g=>Scr.of_fs _ _ rfl g fun _ g=>(Scr.of_altc rfl (g.1 _ fun _ _ g=>g) (fun _ _ g=>Scr.of_fs _ _ rfl g fun _ g=>g) trivial)) trivial)) trivial)) trivial)) trivial))
theorem Tiny.sm{B:Bd}(h:B.Tiny):B.Sm:=by
 have z:∀p z,((B.seat p).zs z).length<=1000:=fun p z=>by
  have e:∃p' z',p'<2/\z'<4/\(B.seat p).zs z=(B.seat p').zs z':=by
   refine⟨if p=0 then 0 else 1,if z=0 then 0 else if z=1 then 1 else if z=2 then 2 else 3,?_,?_,?_⟩
   ·split<;>omega
   ·split<;>(try split)<;>(try split)<;>omega
   unfold Bd.seat Se.zs
   by_cases h0:p=0<;>by_cases h1:z=0<;>by_cases h2:z=1<;>by_cases h3:z=2<;>simp[h0,h1,h2,h3]
  obtain⟨p',z',hp,hz,e⟩:=e
  rw[e]
  have:=h.zs p' z' hp hz
  omega
 exact⟨z,by have:=h.ob;omega,by have:=h.st;omega,by have:=h.qu;omega,by have:=h.att;omega,by have:=h.bl;omega⟩
theorem CI.fst{cs:List (Cd×List (Int×Nat))}(h:∀x∈cs,Plain.I x.1.pw/\Plain.I x.1.tg):CI (cs.map Prod.fst):=fun c hc=>by
 obtain⟨x,hx,rfl⟩:=List.mem_map.1 hc
 exact h x hx
theorem l2r{f:Nat}{a:Array Value}{w:World}{b1 b2 a1 a2:Bool}(h:Calls Tryz.prog f a w fun e w' =>e= .returned (.agg #[.bool b1,.bool b2])/\Below w.heap.size w w')(h1:b1=a1)(h2:b2=a2):Calls Tryz.prog f a w fun e w' =>e= .returned (.agg #[.bool a1,.bool a2])/\Below w.heap.size w w':=by
 subst h1 h2;exact h
theorem wls(v:Value)(cs:List (Cd×List (Int×Nat)))(s:Bs)(B:Bd)(w:World)(hc:CsR w v cs)(hci:∀x∈cs,Plain.I x.1.pw/\Plain.I x.1.tg)(h:BdR w s B)(hi:B.I):Calls Tryz.prog 5 #[v,bv s B] w fun e w' =>e= .returned (.bool true)/\Below w.heap.size w w':=by
 have HCS:=Hd hc;have HR:=Hd h;have HI:=Hd hi;have HCI:=Hd (CI.fst hci);clear hc h hi hci;go_enter Tryz.func5,Tryz.ntmps5
 go_upto_region 1 with fail
 change Code.wp Tryz.prog _ _ _ (w.alloc (.cells (bcells s B) 34))
 obtain⟨wz,hwz⟩:∃W,W=(w.alloc (.cells (bcells s B) 34)):=⟨_,rfl⟩
 rw[<-hwz];have b0:Below w.heap.size w wz:=by rw[hwz];exact(Below.refl _ _).alloc (Nat.le_refl _) _
 have HB:Hid (Below w.heap.size w wz):=Hd b0;have HXb:Hid (Bx wz (w.heap.size) s B):=Hd (by rw[hwz];exact(Ro.new w (bcells s B) 34));have HC1:Hid (w.heap.size+1<=wz.heap.size):=Hd (by rw[hwz];simp);clear hwz b0;go_wp2_with fail
 with_reducible refine(llight v cs _ (HCS.o.below HB.o)).mono ?_
 rintro e w1 ⟨⟨r,rfl,hr⟩,hb⟩;have HC2:Hid (wz.heap.size<=w1.heap.size):=Hd (hb.size);replace HB:=Hd (below_via HB.o hb);replace HXb:=Hd (HXb.o.below hb);clear hb hr
 cases r
 ·go_wp2_with fail
  with_reducible refine(known _).mono ?_
  rintro e w2 ⟨rfl,hb⟩;have HC3:Hid (w1.heap.size<=w2.heap.size):=Hd (hb.size);replace HB:=Hd (below_via HB.o hb);replace HXb:=Hd (HXb.o.below hb);clear hb;go_wp2_with fail
  go_returns
  exact⟨rfl,HB.o⟩
 go_wp2_with (first|(refine wpList_load_bx _ rfl rfl HXb.o (by kernel_rfl) ?_))
 with_reducible refine(bsmall s B _ (HR.o.below HB.o)).mono ?_
 rintro e w2 ⟨⟨r,rfl,hr⟩,hb⟩;have HC3:Hid (w1.heap.size<=w2.heap.size):=Hd (hb.size);replace HB:=Hd (below_via HB.o hb);replace HXb:=Hd (HXb.o.below hb);clear hb
 cases r
 ·go_wp2_with fail
  with_reducible refine(known _).mono ?_
  rintro e w3 ⟨rfl,hb⟩;have HC4:Hid (w2.heap.size<=w3.heap.size):=Hd (hb.size);replace HB:=Hd (below_via HB.o hb);replace HXb:=Hd (HXb.o.below hb);clear hb;go_wp2_with fail
  go_returns
  exact⟨rfl,HB.o⟩
 have HSM:=Hd (Tiny.sm (hr rfl));clear hr;have HS2:=Hd (stab2 (cs.map Prod.fst) s B HCI.o HI.o HSM.o)
 obtain⟨rs,h11,h21⟩:=HS2.o
 have H11:=Hd h11;have H21:=Hd h21
 obtain⟨a1,ha1⟩:∃r,loS B.s0=r:=⟨_,rfl⟩
 obtain⟨a2,ha2⟩:∃r,loS B.s1=r:=⟨_,rfl⟩
 have HA1:=Hd ha1;have HA2:=Hd ha2;have he:∀w,(binOp .eql 44 (.agg #[.bool a1,.bool a2]) (.agg #[.bool a1,.bool a2])).run Tryz.prog w= .ok (.bool true) w:=fun _=>by cases a1<;>cases a2<;>kernel_rfl
 have he2:(rs==rs)=true:=by cases rs<;>rfl
 clear h11 h21 ha1 ha2
 go_upto_region 3 with fail
 refine rg5_3 (w0:=w2) (B:=w2.heap.size) (n:=w2.heap.size) (L:=[]) (by kernel_rfl) rfl (by kernel_rfl) (.t ⟨by go_grown,by go_size,(by simp[go_sem]<;>omega)⟩) (fun w91 K_w91 E_w91 F_w91=> ?_);have _ne:Nonempty (KX (w2.heap.size) w2 (w2.heap.size) [] (fun _=>True)):=⟨⟨_,K_w91,E_w91⟩⟩;have qb0:∀W',(∃s':KX (w2.heap.size) w2 (w2.heap.size) [] (fun _=>True),W' =s'.val)->Bx W' (w.heap.size) s (B):=by rintro _ ⟨s',rfl⟩;exact HXb.o.below s'.kept.below
 repeat (first|(go_big_quiet_want;(first|apply quiet_load_bx _ rfl rfl qb0);(focus(simp[go_sem];rfl));go_big_quiet_on)|go_big_quiet_step (fail))
 refine wpQuiet_nil ?_;have KH_w91:=Hd K_w91;have hw_w91:=K_w91.below;have hz_w91:=K_w91.size;clear K_w91;clear E_w91 F_w91
 refine⟨fun K hK0=> ?_,trivial⟩
 have hK:=Hd hK0;clear hK0;go_wp2_with fail
 with_reducible refine(l2r (blost s B _ ((HR.o.below HB.o).below KH_w91.o.below)) HA1.o HA2.o).mono ?_
 rintro e v3q1 ⟨rfl,hb⟩;have HW:Hid (Below w2.heap.size w2 v3q1):=Hd (below_via KH_w91.o.below hb);clear hb ;go_wp2_with fail
 first|refine⟨rfl,?u,hK.o _ _ ?_⟩|refine⟨?u,hK.o _ _ ?_⟩
 case u=>exact⟨⟨_,(⟨HW.o,HW.o.size,by simp⟩:Kept w2.heap.size w2 w2.heap.size [] v3q1),trivial⟩,rfl⟩
 clear hK K
 refine⟨fun K hK0=> ?_,trivial⟩
 have hK:=Hd hK0;clear hK0;go_wp2_with fail
 with_reducible refine(l2r (rlost s B _ ((HR.o.below HB.o).below HW.o)) HA1.o HA2.o).mono ?_
 rintro e v3q2 ⟨rfl,hb⟩;replace HW:Hid (Below w2.heap.size w2 v3q2):=Hd (below_via HW.o hb);clear hb ;go_wp2_with fail
 first|refine⟨rfl,?u,hK.o _ _ ?_⟩|refine⟨?u,hK.o _ _ ?_⟩
 case u=>exact⟨⟨_,(⟨HW.o,HW.o.size,by simp⟩:Kept w2.heap.size w2 w2.heap.size [] v3q2),trivial⟩,rfl⟩
 clear hK K
 repeat (first|(go_big_quiet_want;(first|apply quiet_load_bx _ rfl rfl qb0);(focus(simp[go_sem];rfl));go_big_quiet_on)|go_big_quiet_step (fail))
 refine wpQuiet_nil ?_
 repeat (first|(go_big_quiet_want;(first|apply quiet_load_bx _ rfl rfl qb0);(focus(simp[go_sem];rfl));go_big_quiet_on)|go_big_quiet_step (fail))
 refine wpQuiet_nil ?_
 refine⟨fun K hK0=> ?_,trivial⟩
 have hK:=Hd hK0;clear hK0;go_wp2_with fail
 with_reducible refine(H11.o _ _ ((HCS.o.below HB.o).below HW.o).row ((HR.o.below HB.o).below HW.o)).mono ?_
 rintro e v3q3 ⟨rfl,hb⟩;replace HW:Hid (Below w2.heap.size w2 v3q3):=Hd (below_via HW.o hb);clear hb ;go_wp2_with fail
 first|refine⟨rfl,?u,hK.o _ _ ?_⟩|refine⟨?u,hK.o _ _ ?_⟩
 case u=>exact⟨⟨_,(⟨HW.o,HW.o.size,by simp⟩:Kept w2.heap.size w2 w2.heap.size [] v3q3),trivial⟩,rfl⟩
 clear hK K
 refine⟨fun K hK0=> ?_,trivial⟩
 have hK:=Hd hK0;clear hK0;go_wp2_with fail
 with_reducible refine(H21.o _ _ ((HCS.o.below HB.o).below HW.o).row ((HR.o.below HB.o).below HW.o)).mono ?_
 rintro e v3q4 ⟨rfl,hb⟩;replace HW:Hid (Below w2.heap.size w2 v3q4):=Hd (below_via HW.o hb);clear hb ;go_wp2_with fail
 first|refine⟨rfl,hK.o _ _ ?_⟩|refine hK.o _ _ ?_
 clear hK K
 repeat (first|(go_big_quiet_want;(first|apply quiet_load_bx _ rfl rfl qb0);(focus(simp[go_sem];rfl));go_big_quiet_on)|go_big_quiet_step (fail))
 refine wpQuiet_nil ?_
 refine⟨fun K hK0=> ?_,trivial⟩
 have hK:=Hd hK0;clear hK0;go_wp2_with fail
 with_reducible refine(known _).mono ?_
 rintro e v3q5 ⟨rfl,hb⟩;replace HW:Hid (Below w2.heap.size w2 v3q5):=Hd (below_via HW.o hb);clear hb ;go_wp2_with fail
 first|refine⟨rfl,hK.o _ _ ?_⟩|refine hK.o _ _ ?_
 clear hK K
 repeat (first|(go_big_quiet_want;(first|apply quiet_load_bx _ rfl rfl qb0);(focus(simp[go_sem];rfl));go_big_quiet_on)|go_big_quiet_step (fail))
 refine wpQuiet_nil ?_;clear _ne qb0;have hb:=HW.o;replace HB:=Hd (below_via HB.o hb);replace HXb:=Hd (HXb.o.below hb);have HC4:Hid (w2.heap.size<=v3q5.heap.size):=Hd (hb.size);clear hb HW ;go_wp2_with fail
 go_returns
 exact⟨rfl,HB.o⟩
end Go.Proofs.YtpbepnpnpopmfaaGreat
