/- Who has lost, by the code. Whether a board is stable, by the code. -/
import Derived.Test.YtpbepnpnpopmfaaGreatUOu
import Derived.Test.YtpbepnpnpopmfaaGreatBVd
import Derived.Deep.DeepCutAuto
import Derived.LoopTactic
import Derived.Deep.MidRow
import Derived.Test.YtpbepnpnpopmfaaGreatUDg
open Go.RowKit Go.Proofs.YtpbepnpnpopmfaaGreat
set_option maxRecDepth 100000
set_option maxHeartbeats 4000000
namespace Go.Proofs.YtpbepnpnpopmfaaGreat
open Plain
set_option linter.unusedVariables false
set_option linter.unusedSimpArgs false

def Plain.loS(S:Se):Bool:=S.em||(S.li==0)
def loC(B:Bd)(p:Nat):Array Value:= #[.bool (decide (0<p)&&loS B.s0),.bool (decide (1<p)&&loS B.s1)]
def LoL(w:World)(s:Bs)(B:Bd)(v:Value)(wr:World):Prop:=∃p:Nat,p<=2/\v= .int .i64 p/\Below w.heap.size w wr/\Ro wr (w.heap.size+1) (loC B p) 44
theorem blost(s:Bs)(B:Bd)(w:World)(h:BdR w s B):Calls Tryz.prog 14 #[bv s B] w fun e w' =>e= .returned (.agg #[.bool (loS B.s0),.bool (loS B.s1)])/\Below w.heap.size w w':=by
 clear h;go_enter Tryz.func14,Tryz.ntmps14
 go_upto_region 1 with fail
 change Code.wp Tryz.prog _ _ _ ((w.alloc (.cells (bcells s B) 34)).alloc (.cells (loC B 0) 44))
 obtain⟨wz,hwz⟩:∃W,W=((w.alloc (.cells (bcells s B) 34)).alloc (.cells (loC B 0) 44)):=⟨_,rfl⟩
 rw[<-hwz];have b0:Below w.heap.size w (w.alloc (.cells (bcells s B) 34)):=by exact(Below.refl _ _).alloc (Nat.le_refl _) _
 have b1:Below (w.alloc (.cells (bcells s B) 34)).heap.size (w.alloc (.cells (bcells s B) 34)) wz:=by rw[hwz];exact(Below.refl _ _).alloc (Nat.le_refl _) _
 have HB:Hid (Below w.heap.size w wz):=Hd (below_via b0 b1);have HXb:Hid (Bx wz (w.heap.size) s B):=Hd ((Ro.new w (bcells s B) 34).below b1:Ro _ _ _ _);have HXz:Hid (Ro wz (w.heap.size+1) (loC B 0) 44):=Hd (by rw[show w.heap.size+1=(w.alloc (.cells (bcells s B) 34)).heap.size by simp];exact(by rw[hwz];exact(Ro.new (w.alloc (.cells (bcells s B) 34)) (loC B 0) 44)));have HC1:Hid (w.heap.size+2<=wz.heap.size):=Hd (by rw[hwz];simp);clear hwz b0 b1;go_wp2_with (refine wpList_load_mid rfl 29 _ rfl w.heap.size 1 rfl (seatsL s B) _ HXb.o.seats Tryz.underlying29 rfl rfl ?_)
 go_loopw [7] (fun v wr=>LoL w s B v wr) (fun v _=>2-(intOf v).toNat)
 case atStart=>exact⟨0,by omega,rfl,HB.o,HXz.o⟩
 obtain⟨p,hp,rfl,hb,hz⟩:=hrel
 replace HB:=Hd hb;replace HXz:=Hd hz;clear hb hz HXb
 by_cases hp2:p<2
 ·obtain⟨S,hS⟩:∃S,B.seat p=S:=⟨_,rfl⟩
  obtain⟨⟨la,ln,lc⟩,e0⟩:∃q,s.zl p 0=q:=⟨_,rfl⟩
  obtain⟨⟨ha,hn,hc⟩,e1⟩:∃q,s.zl p 1=q:=⟨_,rfl⟩
  obtain⟨⟨fa,fn,fc⟩,e2⟩:∃q,s.zl p 2=q:=⟨_,rfl⟩
  obtain⟨⟨ga,gn,gc⟩,e3⟩:∃q,s.zl p 3=q:=⟨_,rfl⟩
  have hix:=idx2 s B hp2 hS e0 e1 e2 e3;have HS:=Hd hS;have i1:(0:Int)<=(p:Int):=by omega
  have i2:(p:Int)<2:=by omega
  have HP2:=Hd hp2;clear e0 e1 e2 e3 hS
  go_upto_region 4 with fail
  clear hix
  obtain⟨wq,hwq⟩:∃W,W=wr.alloc (.cells #[.int .i64 S.li,.int .i64 S.p0,.int .i64 S.p1,.int .i64 S.p2,.int .i64 S.p3,.slice la ln lc,.slice ha hn hc,.slice fa fn fc,.slice ga gn gc,.bool S.em,.bool S.py,.bool S.kp,.int .i64 S.mu,.int .i64 S.ac] 28):=⟨_,rfl⟩
  rw[<-hwq];have hqb:Below wr.heap.size wr wq:=by rw[hwq];exact(Below.refl _ _).alloc (Nat.le_refl _) _
  have hqc:∀j,wq.cell? ⟨wr.heap.size,j,none⟩=(#[.int .i64 S.li,.int .i64 S.p0,.int .i64 S.p1,.int .i64 S.p2,.int .i64 S.p3,.slice la ln lc,.slice ha hn hc,.slice fa fn fc,.slice ga gn gc,.bool S.em,.bool S.py,.bool S.kp,.int .i64 S.mu,.int .i64 S.ac]:Array Value)[j]? :=fun j=>by rw[hwq];exact cell_of_row _ _ j _ 28 (0,0) (heap_alloc_new _ _)
  have q0:wq.cell? ⟨wr.heap.size,0,none⟩=some (.int .i64 S.li):=hqc 0;have q9:wq.cell? ⟨wr.heap.size,9,none⟩=some (.bool S.em):=hqc 9;replace HB:=Hd (below_via HB.o hqb);replace HXz:=Hd (Ro.below HXz.o hqb)
  have hcp:wq.cell? ⟨w.heap.size+1,p,none⟩=some (.bool false):=by
   rw[Ro.cell HXz.o p]
   have:p=0\/p=1:=by omega
   rcases this with rfl|rfl<;>rfl
  have hfp:wq.frozen? ⟨w.heap.size+1,p,none⟩=false:=Ro.free HXz.o p
  obtain⟨r1,h1⟩:∃r,S.em=r:=⟨_,rfl⟩
  rw[h1] at q9
  have HR1:=Hd h1
  have HC:Hid (∀r,(S.em||(S.li==0))=r->∀W,W=wq.setCell ⟨w.heap.size+1,p,none⟩ (.bool r)->Below w.heap.size w W/\Ro W (w.heap.size+1) (loC B (p+1)) 44):=Hd (fun r hr W hW=>by
   have hon:Onl [w.heap.size+1] wq W:=by rw[hW];exact Onl.setCell (Onl.refl _ _) (.inl (by simp)) _
   refine⟨belowOnl HB.o hon (by simp) HB.o.size,?_⟩
   have h3:=heap_setCell_same wq (w.heap.size+1) p (loC B p) 44 (.bool r) HXz.o;rw[<-hW] at h3
   have h4:(loC B p).setIfInBounds p (.bool r)=loC B (p+1):=by
    rw[<-hr,<-HS.o]
    have:p=0\/p=1:=by omega
    rcases this with rfl|rfl<;>simp[loC,loS,Bd.seat]
   rw[h4] at h3
   exact h3)
  clear hwq hqb hqc h1
  cases r1
  ·go_wp2_with fail
   go_roundw
   case rel=>exact⟨p+1,by have:=HP2.o;omega,by go_num,HC.o (S.li==0) (by rw[HR1.o];rfl) _ rfl⟩
   case measure=>simp[intOf];omega
  go_wp2_with fail
  go_roundw
  case rel=>exact⟨p+1,by have:=HP2.o;omega,by go_num,HC.o true (by rw[HR1.o];rfl) _ rfl⟩
  case measure=>simp[intOf];omega
 obtain rfl:p=2:=by omega
 have HXw:Hid (Ro wr (w.heap.size+1) #[.bool (loS B.s0),.bool (loS B.s1)] 44):=Hd HXz.o;clear HXz
 go_upto_region 6 with fail
 go_wp2_with (first|(refine wpList_load_ro rfl 44 #[.bool (loS B.s0),.bool (loS B.s1)] _ rfl rfl HXw.o Tryz.underlying44 rfl rfl ?_)|(refine wpList_store_rh rfl 44 #[.bool (loS B.s0),.bool (loS B.s1)] _ _ rfl rfl rfl HXw.o rfl rfl (arr_one (by simp[Value.oneCell'])) ?_;intro w9 hw9))
 have hon:Onl [w.heap.size+1] wr w9:=by rw[hw9.out];exact Onl.setRow (Onl.refl _ _) (.inl (by simp)) _
 have HG9:Hid (Ro w9 (w.heap.size+1) #[.bool (loS B.s0),.bool (loS B.s1)] 44):=Hd (by rw[hw9.out];exact setRow_heap _ _ _ _ 44 _ HXw.o);have HB9:Hid (Below w.heap.size w w9):=Hd (belowOnl HB.o hon (by simp) HB.o.size);clear hw9 hon;go_wp2_with fail
 exact bodyPost_ret (v:= .agg #[.bool (loS B.s0),.bool (loS B.s1)]) (results_cell_row Tryz.results14 _ _ _ _ _ _ _ rfl HG9.o Tryz.underlying44 rfl (by kernel_rfl)) rfl ⟨rfl,HB9.o⟩
end Go.Proofs.YtpbepnpnpopmfaaGreat
namespace Go.Proofs.YtpbepnpnpopmfaaGreat
open Plain
set_option linter.unusedVariables false
set_option linter.unusedSimpArgs false

theorem rg11_1{P:Program}{B n:Nat}{w0:World}{L:List (Nat×Nat×Value)}{E F:World->Prop}{id:Nat}{Q:Exit->Act->World->Prop}{a:Act}{w:World}{A:Array Oper}{o0 o1 o2 o3 o4 o5 o6 o7 o8 o9 o10 o11 o12 o13:Oper}(hm:P.follows .mixedOrders=true)(hA:A=[o0,o1,o2,o3,o4,o5,o6,o7,o8,o9,o10,o11,o12,o13].toArray)(hB:regOk A [0,4,7] [2,3,6,9,10,11,12,13] (.rs [0] (.alt 1 (.fs [2,3] (.rs [4,7] (.alt 5 (.fs [6] (.altc 8 (.fs [9,10,11,12,13] .done) .stop)) .stop))) .stop))=true)(c:RC B w0 n L E F w)
  (h:∀wk,Kept B w0 n L wk->E wk->F wk->wpQuiet P A (fun w' =>∃s:KX B w0 n L E,w' =s.val) (fun a0=>((∀K1:Act->World->Prop,(∀a1 w1,wpQuiet P A (fun _=>True) (fun a2=>wpQuiet P A (fun w' =>∃s:KX B w0 n L E,w' =s.val) (fun a3=>((∀K4:Act->World->Prop,(∀a4 w4,wpQuiet P A (fun _=>True) (fun a5=>((∀K6:Act->World->Prop,(∀a6 w6,wpQuiet P A (fun _=>True) (fun a7=>Q .normal a7 w6) [o9,o10,o11,o12,o13] a6->K6 a6 w6)->wpList P A (fun e a6 w6=>e= .normal/\K6 a6 w6) [o8] a5 w4)/\True)) [o6] a4->K4 a4 w4)->wpList P A (fun e a4 w4=>e= .normal/\(∃s:KX B w0 n L E,w4=s.val)/\K4 a4 w4) [o5] a3 w1)/\True)) [o4,o7] a2) [o2,o3] a1->K1 a1 w1)->wpList P A (fun e a1 w1=>e= .normal/\(∃s:KX B w0 n L E,w1=s.val)/\K1 a1 w1) [o1] a0 wk)/\True)) [o0] a):(Code.region id A true).wp P Q a w:=by
 subst hA;exact wp_reg _ _ _ hm hB c (fun wk k e f=>have g:=h wk k e f;Scr.of_rs _ _ rfl g fun _ g=>(Scr.of_alt rfl (g.1 _ fun _ _ g=>g) (fun _ _ g=>Scr.of_fs _ _ rfl g fun _ g=>Scr.of_rs _ _ rfl g fun _ g=>(Scr.of_alt rfl (g.1 _ fun _ _ g=>g) (fun _ _ g=>Scr.of_fs _ _ rfl g fun _ g=>(Scr.of_altc rfl (g.1 _ fun _ _ g=>g) (fun _ _ g=>Scr.of_fs _ _ rfl g fun _ g=>g) trivial)) trivial)) trivial))
theorem bstable_ok(v:Value)(cs:List Cd)(s:Bs)(B:Bd)(w:World)(hs:CRow w v cs)(hc:CI cs)(h:BdR w s B)(hv:VB B):Calls Tryz.prog 11 #[v,bv s B] w fun e w' =>e= .returned (.bool (((dyL cs B).length:Int)+((goL B).length:Int)==0))/\Below w.heap.size w w':=by
 have hd:(dyL cs B).length<=1000:=Nat.le_trans (pkL_len _) hv.sm.ob;have hg:(goL B).length<=1000:=Nat.le_trans (pkL_len _) hv.sm.ob
 obtain⟨m1,hm1⟩:∃n,n=(dyL cs B).length:=⟨_,rfl⟩
 obtain⟨m2,hm2⟩:∃n,n=(goL B).length:=⟨_,rfl⟩
 have hw2:wrap64 ((m1:Int)+(m2:Int))=(m1:Int)+(m2:Int):=by unfold wrap64;omega
 obtain⟨r,hr9⟩:∃r,((m1:Int)+(m2:Int)==0)=r:=⟨_,rfl⟩
 rw[<-hm1,<-hm2,hr9];rw[<-hm1] at hd
 rw[<-hm2] at hg
 have HM1:=Hd hm1;have HM2:=Hd hm2;clear hm1 hm2;have HS:=Hd hs;have HC:=Hd hc;have HR:=Hd h;have HV:=Hd hv;clear hs hc h hv;go_enter Tryz.func11,Tryz.ntmps11
 go_upto_region 1 with fail
 change Code.wp Tryz.prog _ _ _ (w.alloc (.cells (bcells s B) 34))
 obtain⟨wz,hwz⟩:∃W,W=(w.alloc (.cells (bcells s B) 34)):=⟨_,rfl⟩
 rw[<-hwz];have b0:Below w.heap.size w wz:=by rw[hwz];exact(Below.refl _ _).alloc (Nat.le_refl _) _
 have HB:Hid (Below w.heap.size w wz):=Hd b0;have HXb:Hid (Bx wz (w.heap.size) s B):=Hd (by rw[hwz];exact(Ro.new w (bcells s B) 34));have HC1:Hid (w.heap.size+1<=wz.heap.size):=Hd (by rw[hwz];simp);clear hwz b0;have hlb:w.heap.size<wz.heap.size:=HXb.o.lt;refine rg11_1 (w0:=wz) (B:=wz.heap.size) (n:=wz.heap.size) (L:=[]) (by kernel_rfl) rfl (by kernel_rfl) (.t ⟨by go_grown,by go_size,(by simp[go_sem]<;>omega)⟩) (fun w91 K_w91 E_w91 F_w91=> ?_);have _ne:Nonempty (KX (wz.heap.size) wz (wz.heap.size) [] (fun _=>True)):=⟨⟨_,K_w91,E_w91⟩⟩;have qb0:∀W',(∃s':KX (wz.heap.size) wz (wz.heap.size) [] (fun _=>True),W' =s'.val)->Bx W' (w.heap.size) s (B):=by rintro _ ⟨s',rfl⟩;exact HXb.o.below s'.kept.below
 repeat (first|(go_big_quiet_want;(first|apply quiet_load_bx _ rfl rfl qb0);(focus(simp[go_sem];rfl));go_big_quiet_on)|go_big_quiet_step (fail))
 refine wpQuiet_nil ?_;have KH_w91:=Hd K_w91;have hw_w91:=K_w91.below;have hz_w91:=K_w91.size;clear K_w91;clear E_w91 F_w91
 refine⟨fun K hK0=> ?_,trivial⟩
 have hK:=Hd hK0;clear hK0;go_wp2_with fail
 with_reducible refine(bvalid s B _ ((HR.o.below HB.o).below KH_w91.o.below) HV.o.i HV.o.sm).mono ?_
 rintro e v1 ⟨⟨r,rfl,hr⟩,hb⟩;have HW:Hid (Below wz.heap.size wz v1):=Hd (below_via KH_w91.o.below hb);obtain rfl:r=true:=hr.2 HV.o;clear hr;clear hb;go_wp2_with fail
 first|refine⟨rfl,?u,hK.o _ _ ?_⟩|refine⟨?u,hK.o _ _ ?_⟩
 case u=>exact⟨⟨_,(⟨HW.o,HW.o.size,by simp⟩:Kept wz.heap.size wz wz.heap.size [] v1),trivial⟩,rfl⟩
 clear hK K
 repeat (first|(go_big_quiet_want;(first|apply quiet_load_bx _ rfl rfl qb0);(focus(simp[go_sem];rfl));go_big_quiet_on)|go_big_quiet_step (fail))
 refine wpQuiet_nil ?_
 repeat (first|(go_big_quiet_want;(first|apply quiet_load_bx _ rfl rfl qb0);(focus(simp[go_sem];rfl));go_big_quiet_on)|go_big_quiet_step (fail))
 refine wpQuiet_nil ?_
 refine⟨fun K hK0=> ?_,trivial⟩
 have hK:=Hd hK0;clear hK0;go_wp2_with fail
 with_reducible refine(bdying v cs s B _ ((HS.o.below HB.o).below HW.o) HC.o ((HR.o.below HB.o).below HW.o) HV.o).mono ?_
 rintro e v2 ⟨da,dc,rfl,_,hb⟩;rw[<-HM1.o];replace HW:Hid (Below wz.heap.size wz v2):=Hd (below_via HW.o hb);clear hb;go_wp2_with fail
 first|refine⟨rfl,?u,hK.o _ _ ?_⟩|refine⟨?u,hK.o _ _ ?_⟩
 case u=>exact⟨⟨_,(⟨HW.o,HW.o.size,by simp⟩:Kept wz.heap.size wz wz.heap.size [] v2),trivial⟩,rfl⟩
 clear hK K
 repeat (first|(go_big_quiet_want;(first|apply quiet_load_bx _ rfl rfl qb0);(focus(simp[go_sem];rfl));go_big_quiet_on)|go_big_quiet_step (fail))
 refine wpQuiet_nil ?_
 refine⟨fun K hK0=> ?_,trivial⟩
 have hK:=Hd hK0;clear hK0;go_wp2_with fail
 with_reducible refine(bgone s B _ ((HR.o.below HB.o).below HW.o) HV.o).mono ?_
 rintro e v3 ⟨ga,gc,rfl,_,hb⟩;rw[<-HM2.o];replace HW:Hid (Below wz.heap.size wz v3):=Hd (below_via HW.o hb);clear hb;go_wp2_with fail
 first|refine⟨rfl,hK.o _ _ ?_⟩|refine hK.o _ _ ?_
 clear hK K
 repeat (first|(go_big_quiet_want;(first|apply quiet_load_bx _ rfl rfl qb0);(focus(simp[go_sem];rfl));go_big_quiet_on)|go_big_quiet_step (fail))
 refine wpQuiet_nil ?_;clear _ne qb0;go_wp2_with fail
 go_returns
 exact⟨rfl,below_via HB.o HW.o⟩
theorem bstable_bad(v:Value)(cs:List Cd)(s:Bs)(B:Bd)(w:World)(hs:CRow w v cs)(hc:CI cs)(h:BdR w s B)(hi:B.I)(hsm:B.Sm)(hv:¬VB B):Calls Tryz.prog 11 #[v,bv s B] w fun e w' =>e= .returned (.bool false)/\Below w.heap.size w w':=by
 have HS:=Hd hs;have HC:=Hd hc;have HR:=Hd h;have HV:=Hd hv;have HI:=Hd hi;have HSM:=Hd hsm;clear hs hc h hv hi hsm;go_enter Tryz.func11,Tryz.ntmps11
 go_upto_region 1 with fail
 change Code.wp Tryz.prog _ _ _ (w.alloc (.cells (bcells s B) 34))
 obtain⟨wz,hwz⟩:∃W,W=(w.alloc (.cells (bcells s B) 34)):=⟨_,rfl⟩
 rw[<-hwz];have b0:Below w.heap.size w wz:=by rw[hwz];exact(Below.refl _ _).alloc (Nat.le_refl _) _
 have HB:Hid (Below w.heap.size w wz):=Hd b0;have HXb:Hid (Bx wz (w.heap.size) s B):=Hd (by rw[hwz];exact(Ro.new w (bcells s B) 34));have HC1:Hid (w.heap.size+1<=wz.heap.size):=Hd (by rw[hwz];simp);clear hwz b0;have hlb:w.heap.size<wz.heap.size:=HXb.o.lt;refine rg11_1 (w0:=wz) (B:=wz.heap.size) (n:=wz.heap.size) (L:=[]) (by kernel_rfl) rfl (by kernel_rfl) (.t ⟨by go_grown,by go_size,(by simp[go_sem]<;>omega)⟩) (fun w91 K_w91 E_w91 F_w91=> ?_);have _ne:Nonempty (KX (wz.heap.size) wz (wz.heap.size) [] (fun _=>True)):=⟨⟨_,K_w91,E_w91⟩⟩;have qb0:∀W',(∃s':KX (wz.heap.size) wz (wz.heap.size) [] (fun _=>True),W' =s'.val)->Bx W' (w.heap.size) s (B):=by rintro _ ⟨s',rfl⟩;exact HXb.o.below s'.kept.below
 repeat (first|(go_big_quiet_want;(first|apply quiet_load_bx _ rfl rfl qb0);(focus(simp[go_sem];rfl));go_big_quiet_on)|go_big_quiet_step (fail))
 refine wpQuiet_nil ?_;have KH_w91:=Hd K_w91;have hw_w91:=K_w91.below;have hz_w91:=K_w91.size;clear K_w91;clear E_w91 F_w91
 refine⟨fun K hK0=> ?_,trivial⟩
 have hK:=Hd hK0;clear hK0;go_wp2_with fail
 with_reducible refine(bvalid s B _ ((HR.o.below HB.o).below KH_w91.o.below) HI.o HSM.o).mono ?_
 rintro e v1 ⟨⟨r,rfl,hr⟩,hb⟩;have HW:Hid (Below wz.heap.size wz v1):=Hd (below_via KH_w91.o.below hb);obtain rfl:r=false:=by cases r with|false=>rfl|true=>exact absurd (hr.1 rfl) HV.o
 clear hr;clear hb;go_wp2_with fail
 first|refine⟨rfl,?u,hK.o _ _ ?_⟩|refine⟨?u,hK.o _ _ ?_⟩
 case u=>exact⟨⟨_,(⟨HW.o,HW.o.size,by simp⟩:Kept wz.heap.size wz wz.heap.size [] v1),trivial⟩,rfl⟩
 clear hK K
 repeat (first|(go_big_quiet_want;(first|apply quiet_load_bx _ rfl rfl qb0);(focus(simp[go_sem];rfl));go_big_quiet_on)|go_big_quiet_step (fail))
 refine wpQuiet_nil ?_
 repeat (first|(go_big_quiet_want;(first|apply quiet_load_bx _ rfl rfl qb0);(focus(simp[go_sem];rfl));go_big_quiet_on)|go_big_quiet_step (fail))
 refine wpQuiet_nil ?_
 refine⟨fun K hK0=> ?_,trivial⟩
 have hK:=Hd hK0;clear hK0;go_wp2_with fail
 first|refine⟨rfl,?u,hK.o _ _ ?_⟩|refine⟨?u,hK.o _ _ ?_⟩
 case u=>exact⟨⟨_,(⟨HW.o,HW.o.size,by simp⟩:Kept wz.heap.size wz wz.heap.size [] v1),trivial⟩,rfl⟩
 clear hK K
 repeat (first|(go_big_quiet_want;(first|apply quiet_load_bx _ rfl rfl qb0);(focus(simp[go_sem];rfl));go_big_quiet_on)|go_big_quiet_step (fail))
 refine wpQuiet_nil ?_
 refine⟨fun K hK0=> ?_,trivial⟩
 have hK:=Hd hK0;clear hK0;go_wp2_with fail
 first|refine⟨rfl,hK.o _ _ ?_⟩|refine hK.o _ _ ?_
 clear hK K
 repeat (first|(go_big_quiet_want;(first|apply quiet_load_bx _ rfl rfl qb0);(focus(simp[go_sem];rfl));go_big_quiet_on)|go_big_quiet_step (fail))
 refine wpQuiet_nil ?_;clear _ne qb0;go_wp2_with fail
 go_returns
 exact⟨rfl,below_via HB.o HW.o⟩
end Go.Proofs.YtpbepnpnpopmfaaGreat
