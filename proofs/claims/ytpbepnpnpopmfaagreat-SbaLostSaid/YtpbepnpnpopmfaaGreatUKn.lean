/- The chapter's examples. -/
import Derived.Test.YtpbepnpnpopmfaaGreatUKp
import Derived.Test.YtpbepnpnpopmfaaGreatUSt
import Derived.Test.YtpbepnpnpopmfaaGreatTTk
import Derived.Deep.DeepCutAuto
import Derived.LoopTactic
import Derived.Deep.MidRow
open Go.RowKit Go.Proofs.YtpbepnpnpopmfaaGreat
set_option maxRecDepth 100000
set_option maxHeartbeats 4000000
namespace Go.Proofs.YtpbepnpnpopmfaaGreat
open Plain
set_option linter.unusedVariables false
set_option linter.unusedSimpArgs false

theorem rg9_4{P:Program}{B n:Nat}{w0:World}{L:List (Nat×Nat×Value)}{E F:World->Prop}{id:Nat}{Q:Exit->Act->World->Prop}{a:Act}{w:World}{A:Array Oper}{o0 o1 o2 o3 o4 o5 o6 o7 o8 o9:Oper}(hm:P.follows .mixedOrders=true)(hA:A=[o0,o1,o2,o3,o4,o5,o6,o7,o8,o9].toArray)(hB:regOk A [1,3] [0,2,4,5,7,8] (.fs [0,2] (.rs [1] (.fs [4,5] (.rs [3] (.alt 6 (.fs [7,8] (.altc 9 .done .stop)) .stop)))))=true)(c:RC B w0 n L E F w)
  (h:∀wk,Kept B w0 n L wk->E wk->F wk->wpQuiet P A (fun _=>True) (fun a0=>wpQuiet P A (fun w' =>∃s:KX B w0 n L E,w' =s.val) (fun a1=>wpQuiet P A (fun _=>True) (fun a2=>wpQuiet P A (fun w' =>∃s:KX B w0 n L E,w' =s.val) (fun a3=>((∀K4:Act->World->Prop,(∀a4 w4,wpQuiet P A (fun _=>True) (fun a5=>((∀K6:Act->World->Prop,(∀a6 w6,Q .normal a6 w6->K6 a6 w6)->wpList P A (fun e a6 w6=>e= .normal/\K6 a6 w6) [o9] a5 w4)/\True)) [o7,o8] a4->K4 a4 w4)->wpList P A (fun e a4 w4=>e= .normal/\(∃s:KX B w0 n L E,w4=s.val)/\K4 a4 w4) [o6] a3 wk)/\True)) [o3] a2) [o4,o5] a1) [o1] a0) [o0,o2] a):(Code.region id A true).wp P Q a w:=by
 subst hA;exact wp_reg _ _ _ hm hB c (fun wk k e f=>have g:=h wk k e f;Scr.of_fs _ _ rfl g fun _ g=>Scr.of_rs _ _ rfl g fun _ g=>Scr.of_fs _ _ rfl g fun _ g=>Scr.of_rs _ _ rfl g fun _ g=>(Scr.of_alt rfl (g.1 _ fun _ _ g=>g) (fun _ _ g=>Scr.of_fs _ _ rfl g fun _ g=>(Scr.of_altc rfl (g.1 _ fun _ _ g=>g) (fun _ _ g=>g) trivial)) trivial))
theorem rg9_7{P:Program}{B n:Nat}{w0:World}{L:List (Nat×Nat×Value)}{E F:World->Prop}{id:Nat}{Q:Exit->Act->World->Prop}{a:Act}{w:World}{A:Array Oper}{o0 o1 o2 o3 o4 o5 o6 o7 o8 o9 o10 o11 o12 o13 o14 o15:Oper}(hm:P.follows .mixedOrders=true)(hA:A=[o0,o1,o2,o3,o4,o5,o6,o7,o8,o9,o10,o11,o12,o13,o14,o15].toArray)(hB:regOk A [1,2,7,12] [4,5,9,10,14,15] (.rs [1,2] (.alt 0 (.alt 3 (.fs [4,5] (.rs [7] (.alt 6 (.alt 8 (.fs [9,10] (.rs [12] (.alt 11 (.altc 13 (.fs [14,15] .done) .stop) .stop))) .stop) .stop))) .stop) .stop))=true)(c:RC B w0 n L E F w)
  (h:∀wk,Kept B w0 n L wk->E wk->F wk->wpQuiet P A (fun w' =>∃s:KX B w0 n L E,w' =s.val) (fun a0=>((∀K1:Act->World->Prop,(∀a1 w1,((∀K2:Act->World->Prop,(∀a2 w2,wpQuiet P A (fun _=>True) (fun a3=>wpQuiet P A (fun w' =>∃s:KX B w0 n L E,w' =s.val) (fun a4=>((∀K5:Act->World->Prop,(∀a5 w5,((∀K6:Act->World->Prop,(∀a6 w6,wpQuiet P A (fun _=>True) (fun a7=>wpQuiet P A (fun w' =>∃s:KX B w0 n L E,w' =s.val) (fun a8=>((∀K9:Act->World->Prop,(∀a9 w9,((∀K10:Act->World->Prop,(∀a10 w10,wpQuiet P A (fun _=>True) (fun a11=>Q .normal a11 w10) [o14,o15] a10->K10 a10 w10)->wpList P A (fun e a10 w10=>e= .normal/\K10 a10 w10) [o13] a9 w9)/\True)->K9 a9 w9)->wpList P A (fun e a9 w9=>e= .normal/\(∃s:KX B w0 n L E,w9=s.val)/\K9 a9 w9) [o11] a8 w6)/\True)) [o12] a7) [o9,o10] a6->K6 a6 w6)->wpList P A (fun e a6 w6=>e= .normal/\(∃s:KX B w0 n L E,w6=s.val)/\K6 a6 w6) [o8] a5 w5)/\True)->K5 a5 w5)->wpList P A (fun e a5 w5=>e= .normal/\(∃s:KX B w0 n L E,w5=s.val)/\K5 a5 w5) [o6] a4 w2)/\True)) [o7] a3) [o4,o5] a2->K2 a2 w2)->wpList P A (fun e a2 w2=>e= .normal/\(∃s:KX B w0 n L E,w2=s.val)/\K2 a2 w2) [o3] a1 w1)/\True)->K1 a1 w1)->wpList P A (fun e a1 w1=>e= .normal/\(∃s:KX B w0 n L E,w1=s.val)/\K1 a1 w1) [o0] a0 wk)/\True)) [o1,o2] a):(Code.region id A true).wp P Q a w:=by
 subst hA;exact wp_reg _ _ _ hm hB c (fun wk k e f=>have g:=h wk k e f;Scr.of_rs _ _ rfl g fun _ g=>(Scr.of_alt rfl (g.1 _ fun _ _ g=>g) (fun _ _ g=>(Scr.of_alt rfl (g.1 _ fun _ _ g=>g) (fun _ _ g=>Scr.of_fs _ _ rfl g fun _ g=>Scr.of_rs _ _ rfl g fun _ g=>(Scr.of_alt rfl (g.1 _ fun _ _ g=>g) (fun _ _ g=>(Scr.of_alt rfl (g.1 _ fun _ _ g=>g) (fun _ _ g=>Scr.of_fs _ _ rfl g fun _ g=>Scr.of_rs _ _ rfl g fun _ g=>(Scr.of_alt rfl (g.1 _ fun _ _ g=>g) (fun _ _ g=>(Scr.of_altc rfl (g.1 _ fun _ _ g=>g) (fun _ _ g=>Scr.of_fs _ _ rfl g fun _ g=>g) trivial)) trivial)) trivial)) trivial)) trivial)) trivial))
theorem rg9_11{P:Program}{B n:Nat}{w0:World}{L:List (Nat×Nat×Value)}{E F:World->Prop}{id:Nat}{Q:Exit->Act->World->Prop}{a:Act}{w:World}{A:Array Oper}{o0 o1 o2 o3 o4 o5 o6 o7 o8 o9:Oper}(hm:P.follows .mixedOrders=true)(hA:A=[o0,o1,o2,o3,o4,o5,o6,o7,o8,o9].toArray)(hB:regOk A [1,3] [0,2,4,5,7,8] (.fs [0,2] (.rs [1] (.fs [4,5] (.rs [3] (.alt 6 (.fs [7,8] (.altc 9 .done .stop)) .stop)))))=true)(c:RC B w0 n L E F w)
  (h:∀wk,Kept B w0 n L wk->E wk->F wk->wpQuiet P A (fun _=>True) (fun a0=>wpQuiet P A (fun w' =>∃s:KX B w0 n L E,w' =s.val) (fun a1=>wpQuiet P A (fun _=>True) (fun a2=>wpQuiet P A (fun w' =>∃s:KX B w0 n L E,w' =s.val) (fun a3=>((∀K4:Act->World->Prop,(∀a4 w4,wpQuiet P A (fun _=>True) (fun a5=>((∀K6:Act->World->Prop,(∀a6 w6,Q .normal a6 w6->K6 a6 w6)->wpList P A (fun e a6 w6=>e= .normal/\K6 a6 w6) [o9] a5 w4)/\True)) [o7,o8] a4->K4 a4 w4)->wpList P A (fun e a4 w4=>e= .normal/\(∃s:KX B w0 n L E,w4=s.val)/\K4 a4 w4) [o6] a3 wk)/\True)) [o3] a2) [o4,o5] a1) [o1] a0) [o0,o2] a):(Code.region id A true).wp P Q a w:=by
 subst hA;exact wp_reg _ _ _ hm hB c (fun wk k e f=>have g:=h wk k e f;Scr.of_fs _ _ rfl g fun _ g=>Scr.of_rs _ _ rfl g fun _ g=>Scr.of_fs _ _ rfl g fun _ g=>Scr.of_rs _ _ rfl g fun _ g=>(Scr.of_alt rfl (g.1 _ fun _ _ g=>g) (fun _ _ g=>Scr.of_fs _ _ rfl g fun _ g=>(Scr.of_altc rfl (g.1 _ fun _ _ g=>g) (fun _ _ g=>g) trivial)) trivial))
theorem rg9_14{P:Program}{B n:Nat}{w0:World}{L:List (Nat×Nat×Value)}{E F:World->Prop}{id:Nat}{Q:Exit->Act->World->Prop}{a:Act}{w:World}{A:Array Oper}{o0 o1 o2 o3 o4 o5 o6 o7 o8 o9 o10 o11 o12:Oper}(hm:P.follows .mixedOrders=true)(hA:A=[o0,o1,o2,o3,o4,o5,o6,o7,o8,o9,o10,o11,o12].toArray)(hB:regOk A [1,2,7,9] [4,5,11,12] (.rs [1,2] (.alt 0 (.alt 3 (.fs [4,5] (.rs [7,9] (.alt 6 (.alt 8 (.altc 10 (.fs [11,12] .done) .stop) .stop) .stop))) .stop) .stop))=true)(c:RC B w0 n L E F w)
  (h:∀wk,Kept B w0 n L wk->E wk->F wk->wpQuiet P A (fun w' =>∃s:KX B w0 n L E,w' =s.val) (fun a0=>((∀K1:Act->World->Prop,(∀a1 w1,((∀K2:Act->World->Prop,(∀a2 w2,wpQuiet P A (fun _=>True) (fun a3=>wpQuiet P A (fun w' =>∃s:KX B w0 n L E,w' =s.val) (fun a4=>((∀K5:Act->World->Prop,(∀a5 w5,((∀K6:Act->World->Prop,(∀a6 w6,((∀K7:Act->World->Prop,(∀a7 w7,wpQuiet P A (fun _=>True) (fun a8=>Q .normal a8 w7) [o11,o12] a7->K7 a7 w7)->wpList P A (fun e a7 w7=>e= .normal/\K7 a7 w7) [o10] a6 w6)/\True)->K6 a6 w6)->wpList P A (fun e a6 w6=>e= .normal/\(∃s:KX B w0 n L E,w6=s.val)/\K6 a6 w6) [o8] a5 w5)/\True)->K5 a5 w5)->wpList P A (fun e a5 w5=>e= .normal/\(∃s:KX B w0 n L E,w5=s.val)/\K5 a5 w5) [o6] a4 w2)/\True)) [o7,o9] a3) [o4,o5] a2->K2 a2 w2)->wpList P A (fun e a2 w2=>e= .normal/\(∃s:KX B w0 n L E,w2=s.val)/\K2 a2 w2) [o3] a1 w1)/\True)->K1 a1 w1)->wpList P A (fun e a1 w1=>e= .normal/\(∃s:KX B w0 n L E,w1=s.val)/\K1 a1 w1) [o0] a0 wk)/\True)) [o1,o2] a):(Code.region id A true).wp P Q a w:=by
 subst hA;exact wp_reg _ _ _ hm hB c (fun wk k e f=>have g:=h wk k e f;Scr.of_rs _ _ rfl g fun _ g=>(Scr.of_alt rfl (g.1 _ fun _ _ g=>g) (fun _ _ g=>(Scr.of_alt rfl (g.1 _ fun _ _ g=>g) (fun _ _ g=>Scr.of_fs _ _ rfl g fun _ g=>Scr.of_rs _ _ rfl g fun _ g=>(Scr.of_alt rfl (g.1 _ fun _ _ g=>g) (fun _ _ g=>(Scr.of_alt rfl (g.1 _ fun _ _ g=>g) (fun _ _ g=>(Scr.of_altc rfl (g.1 _ fun _ _ g=>g) (fun _ _ g=>Scr.of_fs _ _ rfl g fun _ g=>g) trivial)) trivial)) trivial)) trivial)) trivial))
theorem km1(s:Bs)(w:World)(h:BdR w s kB0):Calls Tryz.prog 28 #[bv s kB0,.int .i64 1,.int .i64 2] w (CpA w kB1):=rmove2 s kB0 0 (mkO 0 0 0) 0 w h (smF (by decide+kernel) (by decide+kernel) (by decide+kernel) (by decide+kernel) (by decide+kernel) (by decide+kernel)) (tlF (by kernel_rfl) (by kernel_rfl)) (by kernel_rfl) (firstF _ _ _ (by decide+kernel)) (by omega) (by kernel_rfl)
theorem km2(s:Bs)(w:World)(h:BdR w s kB1):Calls Tryz.prog 28 #[bv s kB1,.int .i64 2,.int .i64 2] w (CpA w kB2):=rmove2 s kB1 1 (mkO 0 1 0) 0 w h (smF (by decide+kernel) (by decide+kernel) (by decide+kernel) (by decide+kernel) (by decide+kernel) (by decide+kernel)) (tlF (by kernel_rfl) (by kernel_rfl)) (by kernel_rfl) (firstF _ _ _ (by decide+kernel)) (by omega) (by kernel_rfl)
theorem km3(s:Bs)(w:World)(h:BdR w s kB5):Calls Tryz.prog 28 #[bv s kB5,.int .i64 1,.int .i64 3] w (CpA w kW1):=rmove3 s kB5 0 (daO kX0 2) 0 w h (smF (by decide+kernel) (by decide+kernel) (by decide+kernel) (by decide+kernel) (by decide+kernel) (by decide+kernel)) (tlF (by kernel_rfl) (by kernel_rfl)) (by kernel_rfl) (firstF _ _ _ (by decide+kernel)) (by omega) (by kernel_rfl)
theorem cm1(s:Bs)(w:World)(h:BdR w s cB0):Calls Tryz.prog 28 #[bv s cB0,.int .i64 1,.int .i64 1] w (CpA w cB1):=rmove1 s cB0 0 (mkO 0 0 0) 0 w h (smF (by decide+kernel) (by decide+kernel) (by decide+kernel) (by decide+kernel) (by decide+kernel) (by decide+kernel)) (tlF (by kernel_rfl) (by kernel_rfl)) (by kernel_rfl) (firstF _ _ _ (by decide+kernel)) (by omega) (by kernel_rfl)
theorem cm2(s:Bs)(w:World)(h:BdR w s cB1):Calls Tryz.prog 28 #[bv s cB1,.int .i64 2,.int .i64 2] w (CpA w cB2):=rmove2 s cB1 1 (mkO 0 1 1) 0 w h (smF (by decide+kernel) (by decide+kernel) (by decide+kernel) (by decide+kernel) (by decide+kernel) (by decide+kernel)) (tlF (by kernel_rfl) (by kernel_rfl)) (by kernel_rfl) (firstF _ _ _ (by decide+kernel)) (by omega) (by kernel_rfl)
theorem hm1(s:Bs)(w:World)(h:BdR w s tB1):Calls Tryz.prog 28 #[bv s tB1,.int .i64 1,.int .i64 1] w (CpA w hB1):=rmove1 s tB1 0 (tX1) 1 w h (smF (by decide+kernel) (by decide+kernel) (by decide+kernel) (by decide+kernel) (by decide+kernel) (by decide+kernel)) (tlF (by kernel_rfl) (by kernel_rfl)) (by kernel_rfl) (firstF _ _ _ (by decide+kernel)) (by omega) (by kernel_rfl)
theorem krm(s:Bs)(w:World)(h:BdR w s kW1):Calls Tryz.prog 30 #[bv s kW1,.int .i64 3] w (CpA w kW2):=rremove s kW1 2 (rsO (tkO 3 0 0 0) 2) w h (smF (by decide+kernel) (by decide+kernel) (by decide+kernel) (by decide+kernel) (by decide+kernel) (by decide+kernel)) (tlF (by kernel_rfl) (by kernel_rfl)) (by kernel_rfl) (firstF _ _ _ (by decide+kernel))
theorem ktk(s:Bs)(w:World)(h:BdR w s kB2):Calls Tryz.prog 29 #[bv s kB2,.int .i64 0,.int .i64 0,.int .i64 0,.int .i64 9] w (BrA w kB3 (.int .i64 3)):=rtoken s kB2 2 0 0 0 9 w h (smF (by decide+kernel) (by decide+kernel) (by decide+kernel) (by decide+kernel) (by decide+kernel) (by decide+kernel)) (tlF (by kernel_rfl) (by kernel_rfl)) (seqF _ (by decide+kernel)) (by kernel_rfl) (by omega) (by omega) (by omega)
theorem dtk(s:Bs)(w:World)(h:BdR w s dB0):Calls Tryz.prog 29 #[bv s dB0,.int .i64 1,.int .i64 1,.int .i64 1,.int .i64 9] w (BrA w tB1 (.int .i64 1)):=rtoken s dB0 0 1 1 1 9 w h (smF (by decide+kernel) (by decide+kernel) (by decide+kernel) (by decide+kernel) (by decide+kernel) (by decide+kernel)) (tlF (by kernel_rfl) (by kernel_rfl)) (seqF _ (by decide+kernel)) (by kernel_rfl) (by omega) (by omega) (by omega)
theorem kck(v:Value)(a:Nat)(s s2:Bs)(w:World)(hc:CsR w v (csP a))(h:BdR w s kB5)(h2:BdR w s2 kW3):Calls Tryz.prog 12 #[v,bv s kB5,.int .i64 9,bv s2 kW3,.int .i64 3] w fun e w' =>e= .returned (.bool true)/\Below w.heap.size w w':=lchecks v (csP a) s kB5 9 s2 kW3 3 w hc (csP_ci a) (csP_lt a) h h2 kB5_vb (by omega) (by decide+kernel) (kn_b a) (kn_bn a)
theorem cck(v:Value)(a:Nat)(s s2:Bs)(w:World)(hc:CsR w v (csP a))(h:BdR w s cB4)(h2:BdR w s2 cB4):Calls Tryz.prog 12 #[v,bv s cB4,.int .i64 9,bv s2 cB4,.int .i64 0] w fun e w' =>e= .returned (.bool true)/\Below w.heap.size w w':=lchecks v (csP a) s cB4 9 s2 cB4 0 w hc (csP_ci a) (csP_lt a) h h2 cB4_vb (by omega) (by decide+kernel) (kn_c a) (kn_cn a)
theorem hck(v:Value)(a:Nat)(s s2:Bs)(w:World)(hc:CsR w v (csP a))(h:BdR w s hB1)(h2:BdR w s2 dB0):Calls Tryz.prog 12 #[v,bv s hB1,.int .i64 9,bv s2 dB0,.int .i64 1] w fun e w' =>e= .returned (.bool true)/\Below w.heap.size w w':=lchecks v (csP a) s hB1 9 s2 dB0 1 w hc (csP_ci a) (csP_lt a) h h2 hB1_vb (by omega) (by decide+kernel) (kn_h a) (kn_hn a)
theorem kst1(v:Value)(a:Nat)(s:Bs)(w:World)(hc:CsR w v (csP a))(h:BdR w s kB5):Calls Tryz.prog 11 #[v,bv s kB5] w fun e w' =>e= .returned (.bool false)/\Below w.heap.size w w':=by
 have h1:=bstable_ok v ((csP a).map Prod.fst) s kB5 w hc.row (csP_ci a) h kB5_vb;rw[kn_s1 a] at h1
 exact h1
theorem kst2(v:Value)(a:Nat)(s:Bs)(w:World)(hc:CsR w v (csP a))(h:BdR w s kW3):Calls Tryz.prog 11 #[v,bv s kW3] w fun e w' =>e= .returned (.bool true)/\Below w.heap.size w w':=by
 have h1:=bstable_ok v ((csP a).map Prod.fst) s kW3 w hc.row (csP_ci a) h kW3_vb;rw[kn_s2 a] at h1
 exact h1
theorem dlo(s:Bs)(w:World)(h:BdR w s dL3):Calls Tryz.prog 14 #[bv s dL3] w fun e w' =>e= .returned (.agg #[.bool true,.bool true])/\Below w.heap.size w w':=blost s dL3 w h
theorem BdO.lists{lo hi:Nat}{w:World}{s:Bs}{B B':Bd}(h:BdO lo hi w s B)(h1:B'.ob=B.ob)(h2:∀j:Fin 9,B'.il j=B.il j)(h3:B'.st=B.st)(h4:B'.qu=B.qu)(h5:B'.bl=B.bl):BdO lo hi w s B':=⟨by rw[h1];exact h.ob,fun j hj=>by rw[h2 ⟨j,hj⟩];exact h.il j hj,h.nd,by rw[h3];exact h.st,by rw[h4];exact h.qu,h.ns,by rw[h5];exact h.bl⟩
theorem lit2(w:World)(x y:Int):Rw ic 1 (w.alloc (.cells #[.int .i64 x,.int .i64 y] 3)) (.slice (some ⟨w.heap.size,0,none⟩) 2 2) [x,y]:=Rw.of_ro (Ro.new w _ 3) [x,y] rfl ic_len (by simp) (by simp[maxLen]) 2 2 rfl
theorem knew(v0 v1:Value)(w:World)(h0:Rw ic 1 w v0 [0,0])(h1:Rw ic 1 w v1 []):Calls Tryz.prog 27 #[.int .i64 20,.agg #[v0,v1]] w (BrA w kB0 (.int .i64 0)):=rnew 20 [0,0] [] v0 v1 w h0 h1 (by omega) (by decide) (by decide) (by decide)
theorem cnew(v0 v1:Value)(w:World)(h0:Rw ic 1 w v0 [0,1])(h1:Rw ic 1 w v1 []):Calls Tryz.prog 27 #[.int .i64 20,.agg #[v0,v1]] w (BrA w cB0 (.int .i64 0)):=rnew 20 [0,1] [] v0 v1 w h0 h1 (by omega) (by decide) (by decide) (by decide)
theorem dnew(v0 v1:Value)(w:World)(h0:Rw ic 1 w v0 [])(h1:Rw ic 1 w v1 []):Calls Tryz.prog 27 #[.int .i64 20,.agg #[v0,v1]] w (BrA w dB0 (.int .i64 0)):=rnew 20 [] [] v0 v1 w h0 h1 (by omega) (by decide) (by decide) (by decide)
theorem known(w:World):Calls Tryz.prog 9 #[] w fun e w' =>e= .returned (.bool true)/\Below w.heap.size w w':=by
 have HB:Hid (Below w.heap.size w w):=Hd (Below.refl _ _);go_enter Tryz.func9,Tryz.ntmps9
 go_upto_region 1 with fail
 go_wp2_with fail
 obtain⟨w1,hwe⟩:∃W,W=((w.alloc (.cells #[.int .i64 0,.int .i64 0] 3)).alloc (.cells #[] 3)):=⟨_,rfl⟩
 rw[<-hwe];have b1:Below w.heap.size w (w.alloc (.cells #[.int .i64 0,.int .i64 0] 3)):=(Below.refl _ _).alloc (Nat.le_refl _) _;have b2:Below (w.alloc (.cells #[.int .i64 0,.int .i64 0] 3)).heap.size (w.alloc (.cells #[.int .i64 0,.int .i64 0] 3)) w1:=by rw[hwe];exact(Below.refl _ _).alloc (Nat.le_refl _) _
 have hb:=below_via b1 b2;have HD0:Hid (Rw ic 1 w1 (.slice (some ⟨w.heap.size,0,none⟩) 2 2) [0,0]):=Hd ((lit2 w 0 0).below b2);have HD1:Hid (Rw ic 1 w1 (.slice (some ⟨w.heap.size+1,0,none⟩) 0 0) ([]:List Int)):=Hd (.inl ⟨rfl,.inr ⟨_,_,rfl⟩⟩);replace HB:=Hd (below_via HB.o hb);have HC1:Hid (w.heap.size<=w1.heap.size):=Hd (hb.size);clear hwe b1 b2 hb;with_reducible refine(knew _ _ _ HD0.o HD1.o).mono ?_
 rintro e w2 ⟨sb,rfl,ho,hb⟩;have HC2:Hid (w1.heap.size<=w2.heap.size):=Hd (hb.size);replace HB:=Hd (below_via HB.o hb);have HOb:=Hd ho;clear ho hb;clear HD0 HD1;go_wp2_with (first|(refine wpList_store_bh rfl _ _ rfl rfl rfl (heap_alloc_new _ _) rfl ?_))
 intro w3 hw0;have hbx:=boxed hw0.out
 obtain⟨nb,hn⟩:∃n,n=w2.heap.size:=⟨_,rfl⟩
 rw[<-hn] at hbx ⊢
 have hb:=hbx.1;rw[hn] at hb
 clear hw0;replace HB:=Hd (below_via HB.o hb);replace HOb:=Hd (HOb.o.below hb);have HXb:Hid (Bx w3 nb sb (kB0)):=Hd hbx.2;have HC3:Hid (w2.heap.size<=nb/\nb<w3.heap.size):=Hd (⟨by omega,hbx.2.lt⟩);clear hbx hn hb;go_wp2_with (first|(refine wpList_load_bx _ rfl rfl HXb.o (by kernel_rfl) ?_))
 with_reducible refine(km1 sb _ HOb.o.rd).mono ?_
 rintro e w4 ⟨sc,rfl,ho,hb⟩;have HC4:Hid (w3.heap.size<=w4.heap.size):=Hd (hb.size);replace HB:=Hd (below_via HB.o hb);replace HXb:=Hd (HXb.o.below hb);replace HOb:=Hd (HOb.o.below hb);have HOc:=Hd ho;clear ho hb;go_wp2_with fail
 with_reducible refine(km2 sc _ HOc.o.rd).mono ?_
 rintro e w5 ⟨sd,rfl,ho,hb⟩;have HC5:Hid (w4.heap.size<=w5.heap.size):=Hd (hb.size);replace HB:=Hd (below_via HB.o hb);replace HXb:=Hd (HXb.o.below hb);replace HOb:=Hd (HOb.o.below hb);replace HOc:=Hd (HOc.o.below hb);have HOd:=Hd ho;clear ho hb;clear HOb HOc;go_wp2_with (first|(refine wpList_store_bh (s:=sd) (B:=kB2) rfl _ _ rfl rfl rfl HXb.o rfl ?_))
 intro w6 hw0;have hon:Onl [nb] w5 w6:=by rw[hw0.out];exact Onl.setRow (Onl.refl _ _) (.inl (by simp)) _
 have hx:Bx w6 (nb) sd (kB2):=by rw[hw0.out];exact Bx.row HXb.o _ _
 clear hw0;have hlo:w.heap.size<=nb:=by(have o0:=HC1.o;have o1:=HC2.o;have o2:=HC3.o;have o3:=HC4.o;have o4:=HC5.o;have x0:=HXb.o.lt;omega)
 have hls:w.heap.size<=w5.heap.size:=HB.o.size;replace HB:=Hd (belowOnl HB.o hon (by simp only[List.mem_singleton,forall_eq];exact hlo) hls);replace HOd:=Hd (HOd.o.onlB hon HXb.o);have HC6:Hid (w5.heap.size<=w6.heap.size):=Hd (hon.size);clear hlo hls;replace HXb:=Hd hx;clear hx hon;go_wp2_with (first|(refine wpList_load_bx _ rfl rfl HXb.o (by kernel_rfl) ?_))
 with_reducible refine(ktk sd _ HOd.o.rd).mono ?_
 rintro e w7 ⟨se,rfl,ho,hb⟩;have HC7:Hid (w6.heap.size<=w7.heap.size):=Hd (hb.size);replace HB:=Hd (below_via HB.o hb);replace HXb:=Hd (HXb.o.below hb);replace HOd:=Hd (HOd.o.below hb);have HOe:=Hd ho;clear ho hb;clear HOd;go_wp2_with (first|(refine wpList_store_bh (s:=se) (B:=kB3) rfl _ _ rfl rfl rfl HXb.o rfl ?_))
 intro w8 hw0;have hon:Onl [nb] w7 w8:=by rw[hw0.out];exact Onl.setRow (Onl.refl _ _) (.inl (by simp)) _
 have hx:Bx w8 (nb) se (kB3):=by rw[hw0.out];exact Bx.row HXb.o _ _
 clear hw0;have hlo:w.heap.size<=nb:=by(have o0:=HC1.o;have o1:=HC2.o;have o2:=HC3.o;have o3:=HC4.o;have o4:=HC5.o;have o5:=HC6.o;have o6:=HC7.o;have x0:=HXb.o.lt;omega)
 have hls:w.heap.size<=w7.heap.size:=HB.o.size;replace HB:=Hd (belowOnl HB.o hon (by simp only[List.mem_singleton,forall_eq];exact hlo) hls);replace HOe:=Hd (HOe.o.onlB hon HXb.o);have HC8:Hid (w7.heap.size<=w8.heap.size):=Hd (hon.size);clear hlo hls;replace HXb:=Hd hx;clear hx hon;have hln:(kB3).ob.length=3:=by kernel_rfl
 obtain⟨g,cap,hov,hg1,hg2,hg3⟩:=Ox.pos HOe.o.ob (by rw[hln];omega)
 rw[hln] at hov
 have HOV:=Hd hov;have HGL:Hid ((w6.heap.size)<=g/\g<(w7.heap.size)):=Hd ⟨hg1,hg2⟩;have c0:w8.cell? ⟨nb,0,none⟩=some (.slice (some ⟨g,0,none⟩) 3 cap):=(HXb.o.cell 0).trans (congrArg some hov);have hnA:nb<w8.heap.size:=HXb.o.lt;have KH0:=Hd (⟨HB.o,HB.o.size,by simp⟩:Kept w.heap.size w w.heap.size [] w8);clear hln hov hg1 hg2 hg3
 go_upto_region 4 with fail
 refine rg9_4 (w0:=w) (B:=w.heap.size) (n:=w.heap.size) (L:=[]) (E:=fun W=>W.cell? ⟨nb,0,none⟩=some (.slice (some ⟨g,0,none⟩) 3 cap)/\nb<W.heap.size) (F:=fun W=>Below w8.heap.size w8 W) (by kernel_rfl) rfl (by kernel_rfl) ⟨(KH0.o.step (by omega) (by go_grown)),⟨c0,hnA⟩,fun _ _ h hb=>⟨(hb.cell (p:=⟨nb,0,none⟩) h.2).trans h.1,Nat.lt_of_lt_of_le h.2 hb.size⟩,(Below.refl _ _),fun _ _ h hb=>below_via h hb⟩ (fun w73 K_w73 E_w73 F_w73=> ?_);have _ne:Nonempty (KX (w.heap.size) w (w.heap.size) [] (fun W=>W.cell? ⟨nb,0,none⟩=some (.slice (some ⟨g,0,none⟩) 3 cap)/\nb<W.heap.size)):=⟨⟨_,K_w73,E_w73⟩⟩
 repeat (go_big_quiet_step (fail))
 refine wpQuiet_nil ?_;have ra:∀s:KX (w.heap.size) w (w.heap.size) [] (fun W=>W.cell? ⟨nb,0,none⟩=some (.slice (some ⟨g,0,none⟩) 3 cap)/\nb<W.heap.size),s.val.cell? ⟨nb,0,none⟩=some (.slice (some ⟨g,0,none⟩) 3 cap):=fun s=>s.ex.1
 repeat (go_big_quiet_step (fail))
 refine wpQuiet_nil ?_
 repeat (go_big_quiet_step (fail))
 refine wpQuiet_nil ?_
 repeat (go_big_quiet_step (fail))
 refine wpQuiet_nil ?_;have KH_w73:=Hd K_w73;have hw_w73:=K_w73.below;have hz_w73:=K_w73.size;clear K_w73;have HF1:=Hd (F_w73);clear E_w73 F_w73
 refine⟨fun K hK0=> ?_,trivial⟩
 have hK:=Hd hK0;clear hK0;have hb:=HF1.o;replace HB:=Hd (below_via HB.o hb);replace HXb:=Hd (HXb.o.below hb);replace HOe:=Hd (HOe.o.below hb);have HC9:Hid (w8.heap.size<=w73.heap.size):=Hd (hb.size);clear hb HF1;have cq:w73.cell? ⟨g,5,none⟩=some (.int .i64 0):=(HOe.o.cellOb HOV.o (k:=0) (j:=5) (x:=kX0) (by kernel_rfl) rfl (5) rfl).1;have fq:w73.frozen? ⟨g,5,none⟩=false:=(HOe.o.cellOb HOV.o (k:=0) (j:=5) (x:=kX0) (u:= .int .i64 0) (by kernel_rfl) rfl (5) rfl).2;go_wp2_with fail
 obtain⟨wst40,hw⟩:∃W,W=w73.setCell ⟨g,5,none⟩ (.int .i64 2):=⟨_,rfl⟩
 rw[<-hw];have hon:Onl [g] w73 wst40:=by rw[hw];exact Onl.setCell (Onl.refl _ _) (.inl (by simp)) _
 have hbo:BdO (w6.heap.size) (w7.heap.size) wst40 se (kB4):=by rw[hw];exact HOe.o.setC HOV.o (k:=0) (j:=5) (x:=kX0) (x':=(daO kX0 2)) (by kernel_rfl) (by decide) rfl (5) rfl
 have hgl:=HGL.o;clear hw cq fq;replace HB:=Hd (belowOnl HB.o hon (by simp only[List.mem_singleton,forall_eq];(have o0:=HC1.o;have o1:=HC2.o;have o2:=HC3.o;have o3:=HC4.o;have o4:=HC5.o;have o5:=HC6.o;have o6:=HC7.o;have o7:=HC8.o;have o8:=HC9.o;have x0:=HXb.o.lt;omega)) HB.o.size);replace HXb:=Hd (HXb.o.onl hon (by simp only[List.mem_singleton];(have o0:=HC1.o;have o1:=HC2.o;have o2:=HC3.o;have o3:=HC4.o;have o4:=HC5.o;have o5:=HC6.o;have o6:=HC7.o;have o7:=HC8.o;have o8:=HC9.o;have x0:=HXb.o.lt;omega)));replace HOe:=Hd hbo;have HC10:Hid (w73.heap.size<=wst40.heap.size):=Hd (hon.size);clear hon hbo hgl;replace HXb:Hid (Bx wst40 (nb) se (kB4)):=HXb
 first|refine⟨rfl,?u,hK.o _ _ ?_⟩|refine⟨?u,hK.o _ _ ?_⟩
 case u=>exact⟨⟨_,(⟨HB.o,HB.o.size,by simp⟩:Kept w.heap.size w w.heap.size [] wst40),⟨(HXb.o.cell 0).trans (congrArg some HOV.o),HXb.o.lt⟩⟩,rfl⟩
 clear hK K
 repeat (go_big_quiet_step (fail))
 refine wpQuiet_nil ?_
 refine⟨fun K hK0=> ?_,trivial⟩
 have hK:=Hd hK0;clear hK0;have cq:wst40.cell? ⟨g,17,none⟩=some (.int .i64 0):=(HOe.o.cellOb HOV.o (k:=1) (j:=5) (x:=kX1) (by kernel_rfl) rfl (17) rfl).1;have fq:wst40.frozen? ⟨g,17,none⟩=false:=(HOe.o.cellOb HOV.o (k:=1) (j:=5) (x:=kX1) (u:= .int .i64 0) (by kernel_rfl) rfl (17) rfl).2;go_wp2_with fail
 obtain⟨wst41,hw⟩:∃W,W=wst40.setCell ⟨g,17,none⟩ (.int .i64 1):=⟨_,rfl⟩
 rw[<-hw];have hon:Onl [g] wst40 wst41:=by rw[hw];exact Onl.setCell (Onl.refl _ _) (.inl (by simp)) _
 have hbo:BdO (w6.heap.size) (w7.heap.size) wst41 se (kB5):=by rw[hw];exact HOe.o.setC HOV.o (k:=1) (j:=5) (x:=kX1) (x':=(daO kX1 1)) (by kernel_rfl) (by decide) rfl (17) rfl
 have hgl:=HGL.o;clear hw cq fq;replace HB:=Hd (belowOnl HB.o hon (by simp only[List.mem_singleton,forall_eq];(have o0:=HC1.o;have o1:=HC2.o;have o2:=HC3.o;have o3:=HC4.o;have o4:=HC5.o;have o5:=HC6.o;have o6:=HC7.o;have o7:=HC8.o;have o8:=HC9.o;have o9:=HC10.o;have x0:=HXb.o.lt;omega)) HB.o.size);replace HXb:=Hd (HXb.o.onl hon (by simp only[List.mem_singleton];(have o0:=HC1.o;have o1:=HC2.o;have o2:=HC3.o;have o3:=HC4.o;have o4:=HC5.o;have o5:=HC6.o;have o6:=HC7.o;have o7:=HC8.o;have o8:=HC9.o;have o9:=HC10.o;have x0:=HXb.o.lt;omega)));replace HOe:=Hd hbo;have HC11:Hid (wst40.heap.size<=wst41.heap.size):=Hd (hon.size);clear hon hbo hgl;replace HXb:Hid (Bx wst41 (nb) se (kB5)):=HXb
 first|refine⟨rfl,hK.o _ _ ?_⟩|refine hK.o _ _ ?_
 clear hK K;clear ra;clear _ne;clear c0 hnA KH0 HOV HGL
 go_upto_region 5 with fail
 go_wp2_with (first|(refine wpList_load_bx _ rfl rfl HXb.o (by kernel_rfl) ?_))
 with_reducible refine(km3 se _ HOe.o.rd).mono ?_
 rintro e w9 ⟨sf,rfl,ho,hb⟩;have HC12:Hid (wst41.heap.size<=w9.heap.size):=Hd (hb.size);replace HB:=Hd (below_via HB.o hb);replace HXb:=Hd (HXb.o.below hb);replace HOe:=Hd (HOe.o.below hb);have HOf:=Hd ho;clear ho hb;go_wp2_with fail
 with_reducible refine(krm sf _ HOf.o.rd).mono ?_
 rintro e w10 ⟨sh,rfl,ho,hb⟩;have HC13:Hid (w9.heap.size<=w10.heap.size):=Hd (hb.size);replace HB:=Hd (below_via HB.o hb);replace HXb:=Hd (HXb.o.below hb);replace HOe:=Hd (HOe.o.below hb);replace HOf:=Hd (HOf.o.below hb);have HOh:=Hd ho;clear ho hb;clear HOf;go_wp2_with (first|(refine wpList_store_bh rfl _ _ rfl rfl rfl (heap_alloc_new _ _) rfl ?_))
 intro w11 hw0;have hbx:=boxed hw0.out
 obtain⟨nn,hn⟩:∃n,n=w10.heap.size:=⟨_,rfl⟩
 rw[<-hn] at hbx ⊢
 have hb:=hbx.1;rw[hn] at hb
 clear hw0;replace HB:=Hd (below_via HB.o hb);replace HXb:=Hd (HXb.o.below hb);replace HOe:=Hd (HOe.o.below hb);replace HOh:=Hd (HOh.o.below hb);have HXn:Hid (Bx w11 nn sh (kW2)):=Hd hbx.2;have HC14:Hid (w10.heap.size<=nn/\nn<w11.heap.size):=Hd (⟨by omega,hbx.2.lt⟩);clear hbx hn hb;have c30:w11.cell? ⟨nn,30,none⟩=some (sh.qu.v):=HXn.o.cell 30;have f30:w11.frozen? ⟨nn,30,none⟩=false:=HXn.o.free 30;have nnl:nn<w11.heap.size:=HXn.o.lt
 go_upto_region 7 with fail
 obtain⟨w12,h1⟩:∃X,X=w11.setCell ⟨nn,30,none⟩ (.slice (some ⟨w11.heap.size,0,none⟩) 1 1):=⟨_,rfl⟩
 obtain⟨w13,h2⟩:∃X,X=w12.alloc (.cells #[.int .i64 0,.int .i64 1,.int .i64 0,.int .i64 0,.slice none 0 0] 73):=⟨_,rfl⟩
 rw[<-h1,<-h2];have hsz:w12.heap.size=w11.heap.size:=by rw[h1];simp
 have hon:Onl [nn] w11 w12:=by rw[h1];exact Onl.setCell (Onl.refl _ _) (.inl (by simp)) _
 have hx:Bx w12 nn ({sh with qu:=⟨some ⟨w11.heap.size,0,none⟩,1,1⟩}) kW3:=by rw[h1];exact HXn.o.put 30 _ rfl
 have HSZ:=Hd hsz;clear c30 f30 nnl h1 hsz;have hlo:w.heap.size<=nn:=by(have o0:=HC1.o;have o1:=HC2.o;have o2:=HC3.o;have o3:=HC4.o;have o4:=HC5.o;have o5:=HC6.o;have o6:=HC7.o;have o7:=HC8.o;have o8:=HC9.o;have o9:=HC10.o;have o10:=HC11.o;have o11:=HC12.o;have o12:=HC13.o;have o13:=HC14.o;have x0:=HXb.o.lt;have x1:=HXn.o.lt;omega)
 have hls:w.heap.size<=w11.heap.size:=HB.o.size;replace HB:=Hd (belowOnl HB.o hon (by simp only[List.mem_singleton,forall_eq];exact hlo) hls);replace HXb:=Hd (HXb.o.onl hon (by simp only[List.mem_singleton];(have o0:=HC1.o;have o1:=HC2.o;have o2:=HC3.o;have o3:=HC4.o;have o4:=HC5.o;have o5:=HC6.o;have o6:=HC7.o;have o7:=HC8.o;have o8:=HC9.o;have o9:=HC10.o;have o10:=HC11.o;have o11:=HC12.o;have o12:=HC13.o;have o13:=HC14.o;have x0:=HXb.o.lt;have x1:=HXn.o.lt;omega)));replace HOe:=Hd (HOe.o.onlB hon HXn.o);replace HOh:=Hd (HOh.o.onlB hon HXn.o);have HC15:Hid (w11.heap.size<=w12.heap.size):=Hd (hon.size);clear hlo hls;replace HXn:=Hd hx;clear hx hon;have hb:Below w12.heap.size w12 w13:=by rw[h2];exact(Below.refl _ _).alloc (Nat.le_refl _) _
 have hq:ItO (w9.heap.size) w13.heap.size w13 (.slice (some ⟨w11.heap.size,0,none⟩) 1 1) kW3.qu:=⟨[nilI ⟨0,1,0,0,[]⟩],rfl,by
  have h3:=Ow.lit w12 73 [nilI ⟨0,1,0,0,[]⟩] #[.int .i64 0,.int .i64 1,.int .i64 0,.int .i64 0,.slice none 0 0] rfl itc_len (w9.heap.size) (by(have o0:=HC1.o;have o1:=HC2.o;have o2:=HC3.o;have o3:=HC4.o;have o4:=HC5.o;have o5:=HC6.o;have o6:=HC7.o;have o7:=HC8.o;have o8:=HC9.o;have o9:=HC10.o;have o10:=HC11.o;have o11:=HC12.o;have o12:=HC13.o;have o13:=HC14.o;have o14:=HC15.o;have x0:=HXb.o.lt;have x1:=HXn.o.lt;omega)) (by simp[maxLen]);rw[<-h2,HSZ.o] at h3
  exact Ox.of h3,fun x hx=>by
  obtain rfl:=List.mem_singleton.1 hx;exact .inl (Ox.nil _ _ _ _)⟩
 have hbo:BdO (w9.heap.size) w13.heap.size w13 ({sh with qu:=⟨some ⟨w11.heap.size,0,none⟩,1,1⟩}) kW3:=HOh.o.newQu (by(have o0:=HC1.o;have o1:=HC2.o;have o2:=HC3.o;have o3:=HC4.o;have o4:=HC5.o;have o5:=HC6.o;have o6:=HC7.o;have o7:=HC8.o;have o8:=HC9.o;have o9:=HC10.o;have o10:=HC11.o;have o11:=HC12.o;have o12:=HC13.o;have o13:=HC14.o;have o14:=HC15.o;have x0:=HXb.o.lt;have x1:=HXn.o.lt;omega)) ⟨some ⟨w11.heap.size,0,none⟩,1,1⟩ _ (grown_below hb) hq (.inr ⟨_,rfl,Nat.le_of_eq HSZ.o⟩);clear h2 hq;replace HB:=Hd (below_via HB.o hb);replace HXb:=Hd (HXb.o.below hb);replace HXn:=Hd (HXn.o.below hb);replace HOe:=Hd (HOe.o.below hb);have HC16:Hid (w12.heap.size<=w13.heap.size):=Hd (hb.size);replace HOh:=Hd hbo;clear hb hbo HSZ
 obtain⟨sq,hsq⟩:∃s,s=({sh with qu:=⟨some ⟨w11.heap.size,0,none⟩,1,1⟩}):=⟨_,rfl⟩
 rw[<-hsq] at HXn HOh
 clear hsq
 go_upto_region 7 with fail
 refine rg9_7 (w0:=w13) (B:=w13.heap.size) (n:=w13.heap.size) (L:=[]) (by kernel_rfl) rfl (by kernel_rfl) (.t ⟨by go_grown,by go_size,(by simp[go_sem]<;>omega)⟩) (fun w91 K_w91 E_w91 F_w91=> ?_);have _ne:Nonempty (KX (w13.heap.size) w13 (w13.heap.size) [] (fun _=>True)):=⟨⟨_,K_w91,E_w91⟩⟩;have qb0:∀W',(∃s':KX (w13.heap.size) w13 (w13.heap.size) [] (fun _=>True),W' =s'.val)->Bx W' (nb) se (kB5):=by rintro _ ⟨s',rfl⟩;exact HXb.o.below s'.kept.below
 have qb1:∀W',(∃s':KX (w13.heap.size) w13 (w13.heap.size) [] (fun _=>True),W' =s'.val)->Bx W' (nn) sq (kW3):=by rintro _ ⟨s',rfl⟩;exact HXn.o.below s'.kept.below
 repeat (first|(go_big_quiet_want;(first|apply quiet_load_bx _ rfl rfl qb0|apply quiet_load_bx _ rfl rfl qb1);(focus(simp[go_sem];rfl));go_big_quiet_on)|go_big_quiet_step (fail))
 refine wpQuiet_nil ?_;have KH_w91:=Hd K_w91;have hw_w91:=K_w91.below;have hz_w91:=K_w91.size;clear K_w91;clear E_w91 F_w91
 refine⟨fun K hK0=> ?_,trivial⟩
 have hK:=Hd hK0;clear hK0;go_wp2_with fail
 with_reducible refine(lpool _).mono ?_
 rintro e v7q1 ⟨⟨v0,a0,rfl,hp⟩,hb⟩;have HW:Hid (Below w13.heap.size w13 v7q1):=Hd (below_via KH_w91.o.below hb);have HP0:=Hd hp;clear hb hp;go_wp2_with fail
 first|refine⟨rfl,?u,hK.o _ _ ?_⟩|refine⟨?u,hK.o _ _ ?_⟩
 case u=>exact⟨⟨_,(⟨HW.o,HW.o.size,by simp⟩:Kept w13.heap.size w13 w13.heap.size [] v7q1),trivial⟩,rfl⟩
 clear hK K
 refine⟨fun K hK0=> ?_,trivial⟩
 have hK:=Hd hK0;clear hK0;go_wp2_with fail
 with_reducible refine(kck v0 a0 se sq _ HP0.o (HOe.o.rd.below HW.o) (HOh.o.rd.below HW.o)).mono ?_
 rintro e v7q2 ⟨rfl,hb⟩;replace HW:Hid (Below w13.heap.size w13 v7q2):=Hd (below_via HW.o hb);replace HP0:=Hd (HP0.o.below hb);clear hb ;go_wp2_with fail
 first|refine⟨rfl,?u,hK.o _ _ ?_⟩|refine⟨?u,hK.o _ _ ?_⟩
 case u=>exact⟨⟨_,(⟨HW.o,HW.o.size,by simp⟩:Kept w13.heap.size w13 w13.heap.size [] v7q2),trivial⟩,rfl⟩
 clear hK K
 repeat (first|(go_big_quiet_want;(first|apply quiet_load_bx _ rfl rfl qb0|apply quiet_load_bx _ rfl rfl qb1);(focus(simp[go_sem];rfl));go_big_quiet_on)|go_big_quiet_step (fail))
 refine wpQuiet_nil ?_
 repeat (first|(go_big_quiet_want;(first|apply quiet_load_bx _ rfl rfl qb0|apply quiet_load_bx _ rfl rfl qb1);(focus(simp[go_sem];rfl));go_big_quiet_on)|go_big_quiet_step (fail))
 refine wpQuiet_nil ?_
 refine⟨fun K hK0=> ?_,trivial⟩
 have hK:=Hd hK0;clear hK0;go_wp2_with fail
 with_reducible refine(lpool _).mono ?_
 rintro e v7q3 ⟨⟨v6,a6,rfl,hp⟩,hb⟩;replace HW:Hid (Below w13.heap.size w13 v7q3):=Hd (below_via HW.o hb);replace HP0:=Hd (HP0.o.below hb);have HP6:=Hd hp;clear hb hp;go_wp2_with fail
 first|refine⟨rfl,?u,hK.o _ _ ?_⟩|refine⟨?u,hK.o _ _ ?_⟩
 case u=>exact⟨⟨_,(⟨HW.o,HW.o.size,by simp⟩:Kept w13.heap.size w13 w13.heap.size [] v7q3),trivial⟩,rfl⟩
 clear hK K
 refine⟨fun K hK0=> ?_,trivial⟩
 have hK:=Hd hK0;clear hK0;go_wp2_with fail
 with_reducible refine(kst1 v6 a6 se _ HP6.o (HOe.o.rd.below HW.o)).mono ?_
 rintro e v7q4 ⟨rfl,hb⟩;replace HW:Hid (Below w13.heap.size w13 v7q4):=Hd (below_via HW.o hb);replace HP0:=Hd (HP0.o.below hb);replace HP6:=Hd (HP6.o.below hb);clear hb ;go_wp2_with fail
 first|refine⟨rfl,?u,hK.o _ _ ?_⟩|refine⟨?u,hK.o _ _ ?_⟩
 case u=>exact⟨⟨_,(⟨HW.o,HW.o.size,by simp⟩:Kept w13.heap.size w13 w13.heap.size [] v7q4),trivial⟩,rfl⟩
 clear hK K
 repeat (first|(go_big_quiet_want;(first|apply quiet_load_bx _ rfl rfl qb0|apply quiet_load_bx _ rfl rfl qb1);(focus(simp[go_sem];rfl));go_big_quiet_on)|go_big_quiet_step (fail))
 refine wpQuiet_nil ?_
 repeat (first|(go_big_quiet_want;(first|apply quiet_load_bx _ rfl rfl qb0|apply quiet_load_bx _ rfl rfl qb1);(focus(simp[go_sem];rfl));go_big_quiet_on)|go_big_quiet_step (fail))
 refine wpQuiet_nil ?_
 refine⟨fun K hK0=> ?_,trivial⟩
 have hK:=Hd hK0;clear hK0;go_wp2_with fail
 with_reducible refine(lpool _).mono ?_
 rintro e v7q5 ⟨⟨v8,a8,rfl,hp⟩,hb⟩;replace HW:Hid (Below w13.heap.size w13 v7q5):=Hd (below_via HW.o hb);replace HP0:=Hd (HP0.o.below hb);replace HP6:=Hd (HP6.o.below hb);have HP8:=Hd hp;clear hb hp;go_wp2_with fail
 first|refine⟨rfl,?u,hK.o _ _ ?_⟩|refine⟨?u,hK.o _ _ ?_⟩
 case u=>exact⟨⟨_,(⟨HW.o,HW.o.size,by simp⟩:Kept w13.heap.size w13 w13.heap.size [] v7q5),trivial⟩,rfl⟩
 clear hK K
 refine⟨fun K hK0=> ?_,trivial⟩
 have hK:=Hd hK0;clear hK0;go_wp2_with fail
 with_reducible refine(kst2 v8 a8 sq _ HP8.o (HOh.o.rd.below HW.o)).mono ?_
 rintro e v7q6 ⟨rfl,hb⟩;replace HW:Hid (Below w13.heap.size w13 v7q6):=Hd (below_via HW.o hb);replace HP0:=Hd (HP0.o.below hb);replace HP6:=Hd (HP6.o.below hb);replace HP8:=Hd (HP8.o.below hb);clear hb ;go_wp2_with fail
 first|refine⟨rfl,hK.o _ _ ?_⟩|refine hK.o _ _ ?_
 clear hK K
 repeat (first|(go_big_quiet_want;(first|apply quiet_load_bx _ rfl rfl qb0|apply quiet_load_bx _ rfl rfl qb1);(focus(simp[go_sem];rfl));go_big_quiet_on)|go_big_quiet_step (fail))
 refine wpQuiet_nil ?_;clear _ne qb0 qb1;have hb:=HW.o;replace HB:=Hd (below_via HB.o hb);replace HXb:=Hd (HXb.o.below hb);replace HXn:=Hd (HXn.o.below hb);replace HOe:=Hd (HOe.o.below hb);replace HOh:=Hd (HOh.o.below hb);have HC17:Hid (w13.heap.size<=v7q6.heap.size):=Hd (hb.size);clear hb HW HP0 HP6 HP8;clear HOe HOh;clear HXb HXn
 go_upto_region 9 with fail
 go_wp2_with fail
 obtain⟨w14,hwe⟩:∃W,W=((v7q6.alloc (.cells #[.int .i64 0,.int .i64 1] 3)).alloc (.cells #[] 3)):=⟨_,rfl⟩
 rw[<-hwe];have b1:Below v7q6.heap.size v7q6 (v7q6.alloc (.cells #[.int .i64 0,.int .i64 1] 3)):=(Below.refl _ _).alloc (Nat.le_refl _) _;have b2:Below (v7q6.alloc (.cells #[.int .i64 0,.int .i64 1] 3)).heap.size (v7q6.alloc (.cells #[.int .i64 0,.int .i64 1] 3)) w14:=by rw[hwe];exact(Below.refl _ _).alloc (Nat.le_refl _) _
 have hb:=below_via b1 b2;have HD0:Hid (Rw ic 1 w14 (.slice (some ⟨v7q6.heap.size,0,none⟩) 2 2) [0,1]):=Hd ((lit2 v7q6 0 1).below b2);have HD1:Hid (Rw ic 1 w14 (.slice (some ⟨v7q6.heap.size+1,0,none⟩) 0 0) ([]:List Int)):=Hd (.inl ⟨rfl,.inr ⟨_,_,rfl⟩⟩);replace HB:=Hd (below_via HB.o hb);have HC18:Hid (v7q6.heap.size<=w14.heap.size):=Hd (hb.size);clear hwe b1 b2 hb;with_reducible refine(cnew _ _ _ HD0.o HD1.o).mono ?_
 rintro e w15 ⟨si,rfl,ho,hb⟩;have HC19:Hid (w14.heap.size<=w15.heap.size):=Hd (hb.size);replace HB:=Hd (below_via HB.o hb);have HOi:=Hd ho;clear ho hb;clear HD0 HD1;go_wp2_with (first|(refine wpList_store_bh rfl _ _ rfl rfl rfl (heap_alloc_new _ _) rfl ?_))
 intro w16 hw0;have hbx:=boxed hw0.out
 obtain⟨nc,hn⟩:∃n,n=w15.heap.size:=⟨_,rfl⟩
 rw[<-hn] at hbx ⊢
 have hb:=hbx.1;rw[hn] at hb
 clear hw0;replace HB:=Hd (below_via HB.o hb);replace HOi:=Hd (HOi.o.below hb);have HXc:Hid (Bx w16 nc si (cB0)):=Hd hbx.2;have HC20:Hid (w15.heap.size<=nc/\nc<w16.heap.size):=Hd (⟨by omega,hbx.2.lt⟩);clear hbx hn hb;go_wp2_with (first|(refine wpList_load_bx _ rfl rfl HXc.o (by kernel_rfl) ?_))
 with_reducible refine(cm1 si _ HOi.o.rd).mono ?_
 rintro e w17 ⟨sj,rfl,ho,hb⟩;have HC21:Hid (w16.heap.size<=w17.heap.size):=Hd (hb.size);replace HB:=Hd (below_via HB.o hb);replace HXc:=Hd (HXc.o.below hb);replace HOi:=Hd (HOi.o.below hb);have HOj:=Hd ho;clear ho hb;go_wp2_with fail
 with_reducible refine(cm2 sj _ HOj.o.rd).mono ?_
 rintro e w18 ⟨sk,rfl,ho,hb⟩;have HC22:Hid (w17.heap.size<=w18.heap.size):=Hd (hb.size);replace HB:=Hd (below_via HB.o hb);replace HXc:=Hd (HXc.o.below hb);replace HOi:=Hd (HOi.o.below hb);replace HOj:=Hd (HOj.o.below hb);have HOk:=Hd ho;clear ho hb;clear HOi HOj;go_wp2_with (first|(refine wpList_store_bh (s:=sk) (B:=cB2) rfl _ _ rfl rfl rfl HXc.o rfl ?_))
 intro w19 hw0;have hon:Onl [nc] w18 w19:=by rw[hw0.out];exact Onl.setRow (Onl.refl _ _) (.inl (by simp)) _
 have hx:Bx w19 (nc) sk (cB2):=by rw[hw0.out];exact Bx.row HXc.o _ _
 clear hw0;have hlo:w.heap.size<=nc:=by(have o0:=HC1.o;have o1:=HC2.o;have o2:=HC3.o;have o3:=HC4.o;have o4:=HC5.o;have o5:=HC6.o;have o6:=HC7.o;have o7:=HC8.o;have o8:=HC9.o;have o9:=HC10.o;have o10:=HC11.o;have o11:=HC12.o;have o12:=HC13.o;have o13:=HC14.o;have o14:=HC15.o;have o15:=HC16.o;have o16:=HC17.o;have o17:=HC18.o;have o18:=HC19.o;have o19:=HC20.o;have o20:=HC21.o;have o21:=HC22.o;have x0:=HXc.o.lt;omega)
 have hls:w.heap.size<=w18.heap.size:=HB.o.size;replace HB:=Hd (belowOnl HB.o hon (by simp only[List.mem_singleton,forall_eq];exact hlo) hls);replace HOk:=Hd (HOk.o.onlB hon HXc.o);have HC23:Hid (w18.heap.size<=w19.heap.size):=Hd (hon.size);clear hlo hls;replace HXc:=Hd hx;clear hx hon;have hln:(cB2).ob.length=2:=by kernel_rfl
 obtain⟨g,cap,hov,hg1,hg2,hg3⟩:=Ox.pos HOk.o.ob (by rw[hln];omega)
 rw[hln] at hov
 have HOV:=Hd hov;have HGL:Hid ((w17.heap.size)<=g/\g<(w18.heap.size)):=Hd ⟨hg1,hg2⟩;have c0:w19.cell? ⟨nc,0,none⟩=some (.slice (some ⟨g,0,none⟩) 2 cap):=(HXc.o.cell 0).trans (congrArg some hov);have hnA:nc<w19.heap.size:=HXc.o.lt;have KH0:=Hd (⟨HB.o,HB.o.size,by simp⟩:Kept w.heap.size w w.heap.size [] w19);clear hln hov hg1 hg2 hg3
 go_upto_region 11 with fail
 refine rg9_11 (w0:=w) (B:=w.heap.size) (n:=w.heap.size) (L:=[]) (E:=fun W=>W.cell? ⟨nc,0,none⟩=some (.slice (some ⟨g,0,none⟩) 2 cap)/\nc<W.heap.size) (F:=fun W=>Below w19.heap.size w19 W) (by kernel_rfl) rfl (by kernel_rfl) ⟨(KH0.o.step (by omega) (by go_grown)),⟨c0,hnA⟩,fun _ _ h hb=>⟨(hb.cell (p:=⟨nc,0,none⟩) h.2).trans h.1,Nat.lt_of_lt_of_le h.2 hb.size⟩,(Below.refl _ _),fun _ _ h hb=>below_via h hb⟩ (fun w94 K_w94 E_w94 F_w94=> ?_);have _ne:Nonempty (KX (w.heap.size) w (w.heap.size) [] (fun W=>W.cell? ⟨nc,0,none⟩=some (.slice (some ⟨g,0,none⟩) 2 cap)/\nc<W.heap.size)):=⟨⟨_,K_w94,E_w94⟩⟩
 repeat (go_big_quiet_step (fail))
 refine wpQuiet_nil ?_;have ra:∀s:KX (w.heap.size) w (w.heap.size) [] (fun W=>W.cell? ⟨nc,0,none⟩=some (.slice (some ⟨g,0,none⟩) 2 cap)/\nc<W.heap.size),s.val.cell? ⟨nc,0,none⟩=some (.slice (some ⟨g,0,none⟩) 2 cap):=fun s=>s.ex.1
 repeat (go_big_quiet_step (fail))
 refine wpQuiet_nil ?_
 repeat (go_big_quiet_step (fail))
 refine wpQuiet_nil ?_
 repeat (go_big_quiet_step (fail))
 refine wpQuiet_nil ?_;have KH_w94:=Hd K_w94;have hw_w94:=K_w94.below;have hz_w94:=K_w94.size;clear K_w94;have HF1:=Hd (F_w94);clear E_w94 F_w94
 refine⟨fun K hK0=> ?_,trivial⟩
 have hK:=Hd hK0;clear hK0;have hb:=HF1.o;replace HB:=Hd (below_via HB.o hb);replace HXc:=Hd (HXc.o.below hb);replace HOk:=Hd (HOk.o.below hb);have HC24:Hid (w19.heap.size<=w94.heap.size):=Hd (hb.size);clear hb HF1;have cq:w94.cell? ⟨g,11,none⟩=some (.bool false):=(HOk.o.cellOb HOV.o (k:=0) (j:=11) (x:=cX0) (by kernel_rfl) rfl (11) rfl).1;have fq:w94.frozen? ⟨g,11,none⟩=false:=(HOk.o.cellOb HOV.o (k:=0) (j:=11) (x:=cX0) (u:= .bool false) (by kernel_rfl) rfl (11) rfl).2;go_wp2_with fail
 obtain⟨wst110,hw⟩:∃W,W=w94.setCell ⟨g,11,none⟩ (.bool true):=⟨_,rfl⟩
 rw[<-hw];have hon:Onl [g] w94 wst110:=by rw[hw];exact Onl.setCell (Onl.refl _ _) (.inl (by simp)) _
 have hbo:BdO (w17.heap.size) (w18.heap.size) wst110 sk (cB3):=by rw[hw];exact HOk.o.setC HOV.o (k:=0) (j:=11) (x:=cX0) (x':=(dmO cX0)) (by kernel_rfl) (by decide) rfl (11) rfl
 have hgl:=HGL.o;clear hw cq fq;replace HB:=Hd (belowOnl HB.o hon (by simp only[List.mem_singleton,forall_eq];(have o0:=HC1.o;have o1:=HC2.o;have o2:=HC3.o;have o3:=HC4.o;have o4:=HC5.o;have o5:=HC6.o;have o6:=HC7.o;have o7:=HC8.o;have o8:=HC9.o;have o9:=HC10.o;have o10:=HC11.o;have o11:=HC12.o;have o12:=HC13.o;have o13:=HC14.o;have o14:=HC15.o;have o15:=HC16.o;have o16:=HC17.o;have o17:=HC18.o;have o18:=HC19.o;have o19:=HC20.o;have o20:=HC21.o;have o21:=HC22.o;have o22:=HC23.o;have o23:=HC24.o;have x0:=HXc.o.lt;omega)) HB.o.size);replace HXc:=Hd (HXc.o.onl hon (by simp only[List.mem_singleton];(have o0:=HC1.o;have o1:=HC2.o;have o2:=HC3.o;have o3:=HC4.o;have o4:=HC5.o;have o5:=HC6.o;have o6:=HC7.o;have o7:=HC8.o;have o8:=HC9.o;have o9:=HC10.o;have o10:=HC11.o;have o11:=HC12.o;have o12:=HC13.o;have o13:=HC14.o;have o14:=HC15.o;have o15:=HC16.o;have o16:=HC17.o;have o17:=HC18.o;have o18:=HC19.o;have o19:=HC20.o;have o20:=HC21.o;have o21:=HC22.o;have o22:=HC23.o;have o23:=HC24.o;have x0:=HXc.o.lt;omega)));replace HOk:=Hd hbo;have HC25:Hid (w94.heap.size<=wst110.heap.size):=Hd (hon.size);clear hon hbo hgl;replace HXc:Hid (Bx wst110 (nc) sk (cB3)):=HXc
 first|refine⟨rfl,?u,hK.o _ _ ?_⟩|refine⟨?u,hK.o _ _ ?_⟩
 case u=>exact⟨⟨_,(⟨HB.o,HB.o.size,by simp⟩:Kept w.heap.size w w.heap.size [] wst110),⟨(HXc.o.cell 0).trans (congrArg some HOV.o),HXc.o.lt⟩⟩,rfl⟩
 clear hK K
 repeat (go_big_quiet_step (fail))
 refine wpQuiet_nil ?_
 refine⟨fun K hK0=> ?_,trivial⟩
 have hK:=Hd hK0;clear hK0;have cq:wst110.cell? ⟨g,23,none⟩=some (.bool false):=(HOk.o.cellOb HOV.o (k:=1) (j:=11) (x:=cX1) (by kernel_rfl) rfl (23) rfl).1;have fq:wst110.frozen? ⟨g,23,none⟩=false:=(HOk.o.cellOb HOV.o (k:=1) (j:=11) (x:=cX1) (u:= .bool false) (by kernel_rfl) rfl (23) rfl).2;go_wp2_with fail
 obtain⟨wst111,hw⟩:∃W,W=wst110.setCell ⟨g,23,none⟩ (.bool true):=⟨_,rfl⟩
 rw[<-hw];have hon:Onl [g] wst110 wst111:=by rw[hw];exact Onl.setCell (Onl.refl _ _) (.inl (by simp)) _
 have hbo:BdO (w17.heap.size) (w18.heap.size) wst111 sk (cB4):=by rw[hw];exact HOk.o.setC HOV.o (k:=1) (j:=11) (x:=cX1) (x':=(dmO cX1)) (by kernel_rfl) (by decide) rfl (23) rfl
 have hgl:=HGL.o;clear hw cq fq;replace HB:=Hd (belowOnl HB.o hon (by simp only[List.mem_singleton,forall_eq];(have o0:=HC1.o;have o1:=HC2.o;have o2:=HC3.o;have o3:=HC4.o;have o4:=HC5.o;have o5:=HC6.o;have o6:=HC7.o;have o7:=HC8.o;have o8:=HC9.o;have o9:=HC10.o;have o10:=HC11.o;have o11:=HC12.o;have o12:=HC13.o;have o13:=HC14.o;have o14:=HC15.o;have o15:=HC16.o;have o16:=HC17.o;have o17:=HC18.o;have o18:=HC19.o;have o19:=HC20.o;have o20:=HC21.o;have o21:=HC22.o;have o22:=HC23.o;have o23:=HC24.o;have o24:=HC25.o;have x0:=HXc.o.lt;omega)) HB.o.size);replace HXc:=Hd (HXc.o.onl hon (by simp only[List.mem_singleton];(have o0:=HC1.o;have o1:=HC2.o;have o2:=HC3.o;have o3:=HC4.o;have o4:=HC5.o;have o5:=HC6.o;have o6:=HC7.o;have o7:=HC8.o;have o8:=HC9.o;have o9:=HC10.o;have o10:=HC11.o;have o11:=HC12.o;have o12:=HC13.o;have o13:=HC14.o;have o14:=HC15.o;have o15:=HC16.o;have o16:=HC17.o;have o17:=HC18.o;have o18:=HC19.o;have o19:=HC20.o;have o20:=HC21.o;have o21:=HC22.o;have o22:=HC23.o;have o23:=HC24.o;have o24:=HC25.o;have x0:=HXc.o.lt;omega)));replace HOk:=Hd hbo;have HC26:Hid (wst110.heap.size<=wst111.heap.size):=Hd (hon.size);clear hon hbo hgl;replace HXc:Hid (Bx wst111 (nc) sk (cB4)):=HXc
 first|refine⟨rfl,hK.o _ _ ?_⟩|refine hK.o _ _ ?_
 clear hK K;clear ra;clear _ne;clear c0 hnA KH0 HOV HGL
 go_upto_region 12 with fail
 go_wp2_with fail
 with_reducible refine(dnew _ _ _ (Rw.nil _) (Rw.nil _)).mono ?_
 rintro e w20 ⟨sl,rfl,ho,hb⟩;have HC27:Hid (wst111.heap.size<=w20.heap.size):=Hd (hb.size);replace HB:=Hd (below_via HB.o hb);replace HXc:=Hd (HXc.o.below hb);replace HOk:=Hd (HOk.o.below hb);have HOl:=Hd ho;clear ho hb;go_wp2_with (first|(refine wpList_store_bh rfl _ _ rfl rfl rfl (heap_alloc_new _ _) rfl ?_))
 intro w21 hw0;have hbx:=boxed hw0.out
 obtain⟨nd,hn⟩:∃n,n=w20.heap.size:=⟨_,rfl⟩
 rw[<-hn] at hbx ⊢
 have hb:=hbx.1;rw[hn] at hb
 clear hw0;replace HB:=Hd (below_via HB.o hb);replace HXc:=Hd (HXc.o.below hb);replace HOk:=Hd (HOk.o.below hb);replace HOl:=Hd (HOl.o.below hb);have HXd:Hid (Bx w21 nd sl (dB0)):=Hd hbx.2;have HC28:Hid (w20.heap.size<=nd/\nd<w21.heap.size):=Hd (⟨by omega,hbx.2.lt⟩);clear hbx hn hb;go_wp2_with (first|(refine wpList_load_bx _ rfl rfl HXd.o (by kernel_rfl) ?_))
 with_reducible refine(dtk sl _ HOl.o.rd).mono ?_
 rintro e w22 ⟨sm,rfl,ho,hb⟩;have HC29:Hid (w21.heap.size<=w22.heap.size):=Hd (hb.size);replace HB:=Hd (below_via HB.o hb);replace HXc:=Hd (HXc.o.below hb);replace HXd:=Hd (HXd.o.below hb);replace HOk:=Hd (HOk.o.below hb);replace HOl:=Hd (HOl.o.below hb);have HOm:=Hd ho;clear ho hb;go_wp2_with (first|(refine wpList_store_bh rfl _ _ rfl rfl rfl (heap_alloc_new _ _) rfl ?_))
 intro w23 hw0;have hbx:=boxed hw0.out
 obtain⟨nt,hn⟩:∃n,n=w22.heap.size:=⟨_,rfl⟩
 rw[<-hn] at hbx ⊢
 have hb:=hbx.1;rw[hn] at hb
 clear hw0;replace HB:=Hd (below_via HB.o hb);replace HXc:=Hd (HXc.o.below hb);replace HXd:=Hd (HXd.o.below hb);replace HOk:=Hd (HOk.o.below hb);replace HOl:=Hd (HOl.o.below hb);replace HOm:=Hd (HOm.o.below hb);have HXt:Hid (Bx w23 nt sm (tB1)):=Hd hbx.2;have HC30:Hid (w22.heap.size<=nt/\nt<w23.heap.size):=Hd (⟨by omega,hbx.2.lt⟩);clear hbx hn hb
 go_upto_region 14 with fail
 refine rg9_14 (w0:=w23) (B:=w23.heap.size) (n:=w23.heap.size) (L:=[]) (by kernel_rfl) rfl (by kernel_rfl) (.t ⟨by go_grown,by go_size,(by simp[go_sem]<;>omega)⟩) (fun w91 K_w91 E_w91 F_w91=> ?_);have _ne:Nonempty (KX (w23.heap.size) w23 (w23.heap.size) [] (fun _=>True)):=⟨⟨_,K_w91,E_w91⟩⟩;have qb0:∀W',(∃s':KX (w23.heap.size) w23 (w23.heap.size) [] (fun _=>True),W' =s'.val)->Bx W' (nc) sk (cB4):=by rintro _ ⟨s',rfl⟩;exact HXc.o.below s'.kept.below
 have qb1:∀W',(∃s':KX (w23.heap.size) w23 (w23.heap.size) [] (fun _=>True),W' =s'.val)->Bx W' (nt) sm (tB1):=by rintro _ ⟨s',rfl⟩;exact HXt.o.below s'.kept.below
 have qb2:∀W',(∃s':KX (w23.heap.size) w23 (w23.heap.size) [] (fun _=>True),W' =s'.val)->Bx W' (nd) sl (dB0):=by rintro _ ⟨s',rfl⟩;exact HXd.o.below s'.kept.below
 repeat (first|(go_big_quiet_want;(first|apply quiet_load_bx _ rfl rfl qb0|apply quiet_load_bx _ rfl rfl qb1|apply quiet_load_bx _ rfl rfl qb2);(focus(simp[go_sem];rfl));go_big_quiet_on)|go_big_quiet_step (fail))
 refine wpQuiet_nil ?_;have KH_w91:=Hd K_w91;have hw_w91:=K_w91.below;have hz_w91:=K_w91.size;clear K_w91;clear E_w91 F_w91
 refine⟨fun K hK0=> ?_,trivial⟩
 have hK:=Hd hK0;clear hK0;go_wp2_with fail
 with_reducible refine(lpool _).mono ?_
 rintro e v14q1 ⟨⟨v0,a0,rfl,hp⟩,hb⟩;have HW:Hid (Below w23.heap.size w23 v14q1):=Hd (below_via KH_w91.o.below hb);have HP0:=Hd hp;clear hb hp;go_wp2_with fail
 first|refine⟨rfl,?u,hK.o _ _ ?_⟩|refine⟨?u,hK.o _ _ ?_⟩
 case u=>exact⟨⟨_,(⟨HW.o,HW.o.size,by simp⟩:Kept w23.heap.size w23 w23.heap.size [] v14q1),trivial⟩,rfl⟩
 clear hK K
 refine⟨fun K hK0=> ?_,trivial⟩
 have hK:=Hd hK0;clear hK0;go_wp2_with fail
 with_reducible refine(cck v0 a0 sk sk _ HP0.o (HOk.o.rd.below HW.o) (HOk.o.rd.below HW.o)).mono ?_
 rintro e v14q2 ⟨rfl,hb⟩;replace HW:Hid (Below w23.heap.size w23 v14q2):=Hd (below_via HW.o hb);replace HP0:=Hd (HP0.o.below hb);clear hb ;go_wp2_with fail
 first|refine⟨rfl,?u,hK.o _ _ ?_⟩|refine⟨?u,hK.o _ _ ?_⟩
 case u=>exact⟨⟨_,(⟨HW.o,HW.o.size,by simp⟩:Kept w23.heap.size w23 w23.heap.size [] v14q2),trivial⟩,rfl⟩
 clear hK K
 repeat (first|(go_big_quiet_want;(first|apply quiet_load_bx _ rfl rfl qb0|apply quiet_load_bx _ rfl rfl qb1|apply quiet_load_bx _ rfl rfl qb2);(focus(simp[go_sem];rfl));go_big_quiet_on)|go_big_quiet_step (fail))
 refine wpQuiet_nil ?_
 repeat (first|(go_big_quiet_want;(first|apply quiet_load_bx _ rfl rfl qb0|apply quiet_load_bx _ rfl rfl qb1|apply quiet_load_bx _ rfl rfl qb2);(focus(simp[go_sem];rfl));go_big_quiet_on)|go_big_quiet_step (fail))
 refine wpQuiet_nil ?_
 refine⟨fun K hK0=> ?_,trivial⟩
 have hK:=Hd hK0;clear hK0;go_wp2_with fail
 with_reducible refine(lpool _).mono ?_
 rintro e v14q3 ⟨⟨v6,a6,rfl,hp⟩,hb⟩;replace HW:Hid (Below w23.heap.size w23 v14q3):=Hd (below_via HW.o hb);replace HP0:=Hd (HP0.o.below hb);have HP6:=Hd hp;clear hb hp;go_wp2_with fail
 first|refine⟨rfl,?u,hK.o _ _ ?_⟩|refine⟨?u,hK.o _ _ ?_⟩
 case u=>exact⟨⟨_,(⟨HW.o,HW.o.size,by simp⟩:Kept w23.heap.size w23 w23.heap.size [] v14q3),trivial⟩,rfl⟩
 clear hK K
 refine⟨fun K hK0=> ?_,trivial⟩
 have hK:=Hd hK0;clear hK0;go_wp2_with fail
 with_reducible refine(hm1 sm _ (HOm.o.rd.below HW.o)).mono ?_
 rintro e v14q4 ⟨sp,rfl,ho,hb⟩;replace HW:Hid (Below w23.heap.size w23 v14q4):=Hd (below_via HW.o hb);replace HP0:=Hd (HP0.o.below hb);replace HP6:=Hd (HP6.o.below hb);have HM:=Hd ho.rd;clear hb ;go_wp2_with fail
 first|refine⟨rfl,?u,hK.o _ _ ?_⟩|refine⟨?u,hK.o _ _ ?_⟩
 case u=>exact⟨⟨_,(⟨HW.o,HW.o.size,by simp⟩:Kept w23.heap.size w23 w23.heap.size [] v14q4),trivial⟩,rfl⟩
 clear hK K
 refine⟨fun K hK0=> ?_,trivial⟩
 have hK:=Hd hK0;clear hK0;go_wp2_with fail
 with_reducible refine(hck v6 a6 sp sl _ HP6.o HM.o (HOl.o.rd.below HW.o)).mono ?_
 rintro e v14q5 ⟨rfl,hb⟩;replace HW:Hid (Below w23.heap.size w23 v14q5):=Hd (below_via HW.o hb);replace HP0:=Hd (HP0.o.below hb);replace HP6:=Hd (HP6.o.below hb);replace HM:=Hd (HM.o.below hb);clear hb ;go_wp2_with fail
 first|refine⟨rfl,hK.o _ _ ?_⟩|refine hK.o _ _ ?_
 clear hK K
 repeat (first|(go_big_quiet_want;(first|apply quiet_load_bx _ rfl rfl qb0|apply quiet_load_bx _ rfl rfl qb1|apply quiet_load_bx _ rfl rfl qb2);(focus(simp[go_sem];rfl));go_big_quiet_on)|go_big_quiet_step (fail))
 refine wpQuiet_nil ?_;clear _ne qb0 qb1 qb2;have hb:=HW.o;replace HB:=Hd (below_via HB.o hb);replace HXc:=Hd (HXc.o.below hb);replace HXd:=Hd (HXd.o.below hb);replace HXt:=Hd (HXt.o.below hb);replace HOk:=Hd (HOk.o.below hb);replace HOl:=Hd (HOl.o.below hb);replace HOm:=Hd (HOm.o.below hb);have HC31:Hid (w23.heap.size<=v14q5.heap.size):=Hd (hb.size);clear hb HW HP0 HP6 HM;clear HOk HOm;clear HXc HXt;have c1:v14q5.cell? ⟨nd,1,none⟩=some (.int .i64 20):=HXd.o.cell 1;have f1:v14q5.frozen? ⟨nd,1,none⟩=false:=HXd.o.free 1;have c15:v14q5.cell? ⟨nd,15,none⟩=some (.int .i64 20):=HXd.o.cell 15;have f15:v14q5.frozen? ⟨nd,15,none⟩=false:=HXd.o.free 15;have c24:v14q5.cell? ⟨nd,24,none⟩=some (.bool false):=HXd.o.cell 24;have f24:v14q5.frozen? ⟨nd,24,none⟩=false:=HXd.o.free 24
 go_upto_region 17 with fail
 obtain⟨wl,hw⟩:∃X,X=((v14q5.setCell ⟨nd,1,none⟩ (.int .i64 0)).setCell ⟨nd,15,none⟩ (.int .i64 5)).setCell ⟨nd,24,none⟩ (.bool true):=⟨_,rfl⟩
 rw[<-hw];have hon:Onl [nd] v14q5 wl:=by rw[hw];exact Onl.setCell (Onl.setCell (Onl.setCell (Onl.refl _ _) (.inl (by simp)) _) (.inl (by simp)) _) (.inl (by simp)) _
 have hx:Bx wl nd sl dL3:=by
  rw[hw];have g1:Bx _ nd sl dL1:=HXd.o.put 1 (.int .i64 0) rfl;have g2:Bx _ nd sl dL2:=g1.put 15 (.int .i64 5) rfl;exact g2.put 24 (.bool true) rfl
 clear hw c1 f1 c15 f15 c24 f24;have hlo:w.heap.size<=nd:=by(have o0:=HC1.o;have o1:=HC2.o;have o2:=HC3.o;have o3:=HC4.o;have o4:=HC5.o;have o5:=HC6.o;have o6:=HC7.o;have o7:=HC8.o;have o8:=HC9.o;have o9:=HC10.o;have o10:=HC11.o;have o11:=HC12.o;have o12:=HC13.o;have o13:=HC14.o;have o14:=HC15.o;have o15:=HC16.o;have o16:=HC17.o;have o17:=HC18.o;have o18:=HC19.o;have o19:=HC20.o;have o20:=HC21.o;have o21:=HC22.o;have o22:=HC23.o;have o23:=HC24.o;have o24:=HC25.o;have o25:=HC26.o;have o26:=HC27.o;have o27:=HC28.o;have o28:=HC29.o;have o29:=HC30.o;have o30:=HC31.o;have x0:=HXd.o.lt;omega)
 have hls:w.heap.size<=v14q5.heap.size:=HB.o.size;replace HB:=Hd (belowOnl HB.o hon (by simp only[List.mem_singleton,forall_eq];exact hlo) hls);replace HOl:=Hd (HOl.o.onlB hon HXd.o);have HC32:Hid (v14q5.heap.size<=wl.heap.size):=Hd (hon.size);clear hlo hls;replace HXd:=Hd hx;clear hx hon;have HR3:=Hd (HOl.o.lists (B':=dL3) (by kernel_rfl) (by decide+kernel) (by kernel_rfl) (by kernel_rfl) (by kernel_rfl)).rd;have he:∀w,(binOp .eql 44 (.agg #[.bool true,.bool true]) (.agg #[.bool true,.bool true])).run Tryz.prog w= .ok (.bool true) w:=fun _=>by kernel_rfl
 go_wp2_with (first|(refine wpList_load_bx _ rfl rfl HXd.o (by kernel_rfl) ?_))
 with_reducible refine(dlo sl _ HR3.o).mono ?_
 rintro e w24 ⟨rfl,hb⟩;have HC33:Hid (wl.heap.size<=w24.heap.size):=Hd (hb.size);replace HB:=Hd (below_via HB.o hb);replace HXd:=Hd (HXd.o.below hb);replace HOl:=Hd (HOl.o.below hb);clear hb;go_wp2_with fail
 go_returns
 exact⟨rfl,HB.o⟩
end Go.Proofs.YtpbepnpnpopmfaaGreat
