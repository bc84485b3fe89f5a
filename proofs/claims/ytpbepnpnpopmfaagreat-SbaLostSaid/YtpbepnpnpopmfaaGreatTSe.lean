/- Objects that are reset, set and put, by the reference. -/
import Derived.Test.YtpbepnpnpopmfaaGreatTPu
import Derived.Test.YtpbepnpnpopmfaaGreatBCx
import Derived.Test.YtpbepnpnpopmfaaGreatTOg
import Derived.Deep.DeepCutAuto
import Derived.LoopTactic
import Derived.Deep.MidRow
open Go.RowKit Go.Proofs.YtpbepnpnpopmfaaGreat
set_option maxRecDepth 100000
set_option maxHeartbeats 4000000
namespace Go.Proofs.YtpbepnpnpopmfaaGreat
open Plain
set_option linter.unusedVariables false
set_option linter.unusedSimpArgs false

theorem rg48_6{P:Program}{B n:Nat}{w0:World}{L:List (Nat×Nat×Value)}{E F:World->Prop}{id:Nat}{Q:Exit->Act->World->Prop}{a:Act}{w:World}{A:Array Oper}{o0 o1 o2 o3 o4 o5 o6 o7 o8 o9 o10 o11 o12:Oper}(hm:P.follows .mixedOrders=true)(hA:A=[o0,o1,o2,o3,o4,o5,o6,o7,o8,o9,o10,o11,o12].toArray)(hB:regOk A [4,7] [0,1,2,3,6,10,11] (.fs [0,1,2,3,6] (.rs [4,7] (.alt 5 (.alt 8 (.altc 9 (.fs [10,11] (.altc 12 .done .stop)) .stop) .stop) (.alt 8 (.alt 5 (.altc 9 (.fs [10,11] (.altc 12 .done .stop)) .stop) .stop) .stop))))=true)(c:RC B w0 n L E F w)
  (h:∀wk,Kept B w0 n L wk->E wk->F wk->wpQuiet P A (fun _=>True) (fun a0=>wpQuiet P A (fun w' =>∃s:KX B w0 n L E,w' =s.val) (fun a1=>((∀K2:Act->World->Prop,(∀a2 w2,((∀K3:Act->World->Prop,(∀a3 w3,((∀K4:Act->World->Prop,(∀a4 w4,wpQuiet P A (fun _=>True) (fun a5=>((∀K6:Act->World->Prop,(∀a6 w6,Q .normal a6 w6->K6 a6 w6)->wpList P A (fun e a6 w6=>e= .normal/\K6 a6 w6) [o12] a5 w4)/\True)) [o10,o11] a4->K4 a4 w4)->wpList P A (fun e a4 w4=>e= .normal/\K4 a4 w4) [o9] a3 w3)/\True)->K3 a3 w3)->wpList P A (fun e a3 w3=>e= .normal/\(∃s:KX B w0 n L E,w3=s.val)/\K3 a3 w3) [o8] a2 w2)/\True)->K2 a2 w2)->wpList P A (fun e a2 w2=>e= .normal/\(∃s:KX B w0 n L E,w2=s.val)/\K2 a2 w2) [o5] a1 wk)/\(∀K2:Act->World->Prop,(∀a2 w2,((∀K3:Act->World->Prop,(∀a3 w3,((∀K4:Act->World->Prop,(∀a4 w4,wpQuiet P A (fun _=>True) (fun a5=>((∀K6:Act->World->Prop,(∀a6 w6,Q .normal a6 w6->K6 a6 w6)->wpList P A (fun e a6 w6=>e= .normal/\K6 a6 w6) [o12] a5 w4)/\True)) [o10,o11] a4->K4 a4 w4)->wpList P A (fun e a4 w4=>e= .normal/\K4 a4 w4) [o9] a3 w3)/\True)->K3 a3 w3)->wpList P A (fun e a3 w3=>e= .normal/\(∃s:KX B w0 n L E,w3=s.val)/\K3 a3 w3) [o5] a2 w2)/\True)->K2 a2 w2)->wpList P A (fun e a2 w2=>e= .normal/\(∃s:KX B w0 n L E,w2=s.val)/\K2 a2 w2) [o8] a1 wk)/\True)) [o4,o7] a0) [o0,o1,o2,o3,o6] a):(Code.region id A true).wp P Q a w:=by
 subst hA;exact wp_reg _ _ _ hm hB c (fun wk k e f=>have g:=h wk k e f;Scr.of_fs _ _ rfl g fun _ g=>Scr.of_rs _ _ rfl g fun _ g=>(Scr.of_alt rfl (g.1 _ fun _ _ g=>g) (fun _ _ g=>(Scr.of_alt rfl (g.1 _ fun _ _ g=>g) (fun _ _ g=>(Scr.of_altc rfl (g.1 _ fun _ _ g=>g) (fun _ _ g=>Scr.of_fs _ _ rfl g fun _ g=>(Scr.of_altc rfl (g.1 _ fun _ _ g=>g) (fun _ _ g=>g) trivial)) trivial)) trivial)) (Scr.of_alt rfl (g.2.1 _ fun _ _ g=>g) (fun _ _ g=>(Scr.of_alt rfl (g.1 _ fun _ _ g=>g) (fun _ _ g=>(Scr.of_altc rfl (g.1 _ fun _ _ g=>g) (fun _ _ g=>Scr.of_fs _ _ rfl g fun _ g=>(Scr.of_altc rfl (g.1 _ fun _ _ g=>g) (fun _ _ g=>g) trivial)) trivial)) trivial)) trivial)))
theorem rg48_8{P:Program}{B n:Nat}{w0:World}{L:List (Nat×Nat×Value)}{E F:World->Prop}{id:Nat}{Q:Exit->Act->World->Prop}{a:Act}{w:World}{A:Array Oper}{o0 o1 o2 o3 o4 o5 o6 o7 o8 o9 o10 o11 o12:Oper}(hm:P.follows .mixedOrders=true)(hA:A=[o0,o1,o2,o3,o4,o5,o6,o7,o8,o9,o10,o11,o12].toArray)(hB:regOk A [4,7] [0,1,2,3,6,10,11] (.fs [0,1,2,3,6] (.rs [4,7] (.alt 5 (.alt 8 (.altc 9 (.fs [10,11] (.altc 12 .done .stop)) .stop) .stop) (.alt 8 (.alt 5 (.altc 9 (.fs [10,11] (.altc 12 .done .stop)) .stop) .stop) .stop))))=true)(c:RC B w0 n L E F w)
  (h:∀wk,Kept B w0 n L wk->E wk->F wk->wpQuiet P A (fun _=>True) (fun a0=>wpQuiet P A (fun w' =>∃s:KX B w0 n L E,w' =s.val) (fun a1=>((∀K2:Act->World->Prop,(∀a2 w2,((∀K3:Act->World->Prop,(∀a3 w3,((∀K4:Act->World->Prop,(∀a4 w4,wpQuiet P A (fun _=>True) (fun a5=>((∀K6:Act->World->Prop,(∀a6 w6,Q .normal a6 w6->K6 a6 w6)->wpList P A (fun e a6 w6=>e= .normal/\K6 a6 w6) [o12] a5 w4)/\True)) [o10,o11] a4->K4 a4 w4)->wpList P A (fun e a4 w4=>e= .normal/\K4 a4 w4) [o9] a3 w3)/\True)->K3 a3 w3)->wpList P A (fun e a3 w3=>e= .normal/\(∃s:KX B w0 n L E,w3=s.val)/\K3 a3 w3) [o8] a2 w2)/\True)->K2 a2 w2)->wpList P A (fun e a2 w2=>e= .normal/\(∃s:KX B w0 n L E,w2=s.val)/\K2 a2 w2) [o5] a1 wk)/\(∀K2:Act->World->Prop,(∀a2 w2,((∀K3:Act->World->Prop,(∀a3 w3,((∀K4:Act->World->Prop,(∀a4 w4,wpQuiet P A (fun _=>True) (fun a5=>((∀K6:Act->World->Prop,(∀a6 w6,Q .normal a6 w6->K6 a6 w6)->wpList P A (fun e a6 w6=>e= .normal/\K6 a6 w6) [o12] a5 w4)/\True)) [o10,o11] a4->K4 a4 w4)->wpList P A (fun e a4 w4=>e= .normal/\K4 a4 w4) [o9] a3 w3)/\True)->K3 a3 w3)->wpList P A (fun e a3 w3=>e= .normal/\(∃s:KX B w0 n L E,w3=s.val)/\K3 a3 w3) [o5] a2 w2)/\True)->K2 a2 w2)->wpList P A (fun e a2 w2=>e= .normal/\(∃s:KX B w0 n L E,w2=s.val)/\K2 a2 w2) [o8] a1 wk)/\True)) [o4,o7] a0) [o0,o1,o2,o3,o6] a):(Code.region id A true).wp P Q a w:=by
 subst hA;exact wp_reg _ _ _ hm hB c (fun wk k e f=>have g:=h wk k e f;Scr.of_fs _ _ rfl g fun _ g=>Scr.of_rs _ _ rfl g fun _ g=>(Scr.of_alt rfl (g.1 _ fun _ _ g=>g) (fun _ _ g=>(Scr.of_alt rfl (g.1 _ fun _ _ g=>g) (fun _ _ g=>(Scr.of_altc rfl (g.1 _ fun _ _ g=>g) (fun _ _ g=>Scr.of_fs _ _ rfl g fun _ g=>(Scr.of_altc rfl (g.1 _ fun _ _ g=>g) (fun _ _ g=>g) trivial)) trivial)) trivial)) (Scr.of_alt rfl (g.2.1 _ fun _ _ g=>g) (fun _ _ g=>(Scr.of_alt rfl (g.1 _ fun _ _ g=>g) (fun _ _ g=>(Scr.of_altc rfl (g.1 _ fun _ _ g=>g) (fun _ _ g=>Scr.of_fs _ _ rfl g fun _ g=>(Scr.of_altc rfl (g.1 _ fun _ _ g=>g) (fun _ _ g=>g) trivial)) trivial)) trivial)) trivial)))
theorem rg48_10{P:Program}{B n:Nat}{w0:World}{L:List (Nat×Nat×Value)}{E F:World->Prop}{id:Nat}{Q:Exit->Act->World->Prop}{a:Act}{w:World}{A:Array Oper}{o0 o1 o2 o3 o4 o5 o6 o7 o8 o9 o10 o11 o12:Oper}(hm:P.follows .mixedOrders=true)(hA:A=[o0,o1,o2,o3,o4,o5,o6,o7,o8,o9,o10,o11,o12].toArray)(hB:regOk A [4,7] [0,1,2,3,6,10,11] (.fs [0,1,2,3,6] (.rs [4,7] (.alt 5 (.alt 8 (.altc 9 (.fs [10,11] (.altc 12 .done .stop)) .stop) .stop) (.alt 8 (.alt 5 (.altc 9 (.fs [10,11] (.altc 12 .done .stop)) .stop) .stop) .stop))))=true)(c:RC B w0 n L E F w)
  (h:∀wk,Kept B w0 n L wk->E wk->F wk->wpQuiet P A (fun _=>True) (fun a0=>wpQuiet P A (fun w' =>∃s:KX B w0 n L E,w' =s.val) (fun a1=>((∀K2:Act->World->Prop,(∀a2 w2,((∀K3:Act->World->Prop,(∀a3 w3,((∀K4:Act->World->Prop,(∀a4 w4,wpQuiet P A (fun _=>True) (fun a5=>((∀K6:Act->World->Prop,(∀a6 w6,Q .normal a6 w6->K6 a6 w6)->wpList P A (fun e a6 w6=>e= .normal/\K6 a6 w6) [o12] a5 w4)/\True)) [o10,o11] a4->K4 a4 w4)->wpList P A (fun e a4 w4=>e= .normal/\K4 a4 w4) [o9] a3 w3)/\True)->K3 a3 w3)->wpList P A (fun e a3 w3=>e= .normal/\(∃s:KX B w0 n L E,w3=s.val)/\K3 a3 w3) [o8] a2 w2)/\True)->K2 a2 w2)->wpList P A (fun e a2 w2=>e= .normal/\(∃s:KX B w0 n L E,w2=s.val)/\K2 a2 w2) [o5] a1 wk)/\(∀K2:Act->World->Prop,(∀a2 w2,((∀K3:Act->World->Prop,(∀a3 w3,((∀K4:Act->World->Prop,(∀a4 w4,wpQuiet P A (fun _=>True) (fun a5=>((∀K6:Act->World->Prop,(∀a6 w6,Q .normal a6 w6->K6 a6 w6)->wpList P A (fun e a6 w6=>e= .normal/\K6 a6 w6) [o12] a5 w4)/\True)) [o10,o11] a4->K4 a4 w4)->wpList P A (fun e a4 w4=>e= .normal/\K4 a4 w4) [o9] a3 w3)/\True)->K3 a3 w3)->wpList P A (fun e a3 w3=>e= .normal/\(∃s:KX B w0 n L E,w3=s.val)/\K3 a3 w3) [o5] a2 w2)/\True)->K2 a2 w2)->wpList P A (fun e a2 w2=>e= .normal/\(∃s:KX B w0 n L E,w2=s.val)/\K2 a2 w2) [o8] a1 wk)/\True)) [o4,o7] a0) [o0,o1,o2,o3,o6] a):(Code.region id A true).wp P Q a w:=by
 subst hA;exact wp_reg _ _ _ hm hB c (fun wk k e f=>have g:=h wk k e f;Scr.of_fs _ _ rfl g fun _ g=>Scr.of_rs _ _ rfl g fun _ g=>(Scr.of_alt rfl (g.1 _ fun _ _ g=>g) (fun _ _ g=>(Scr.of_alt rfl (g.1 _ fun _ _ g=>g) (fun _ _ g=>(Scr.of_altc rfl (g.1 _ fun _ _ g=>g) (fun _ _ g=>Scr.of_fs _ _ rfl g fun _ g=>(Scr.of_altc rfl (g.1 _ fun _ _ g=>g) (fun _ _ g=>g) trivial)) trivial)) trivial)) (Scr.of_alt rfl (g.2.1 _ fun _ _ g=>g) (fun _ _ g=>(Scr.of_alt rfl (g.1 _ fun _ _ g=>g) (fun _ _ g=>(Scr.of_altc rfl (g.1 _ fun _ _ g=>g) (fun _ _ g=>Scr.of_fs _ _ rfl g fun _ g=>(Scr.of_altc rfl (g.1 _ fun _ _ g=>g) (fun _ _ g=>g) trivial)) trivial)) trivial)) trivial)))
def Plain.rtO(o:Ob):Ob:={o with da:=0,pp:=0,pt:=0}
def Plain.rsO(o:Ob)(z:Int):Ob:={o with da:=0,pp:=0,pt:=0,co:=0,ta:=false,dm:=false,si:=(z==2)}
theorem ob_put{w:World}{P:Nat}{x x':Ob}(h:w.heap[P]? =some (.cells (oc x).toArray 47 (0,0)))(i:Nat)(v:Value)(he:(oc x).toArray.setIfInBounds i v=(oc x').toArray):(w.setCell ⟨P,i,none⟩ v).heap[P]? =some (.cells (oc x').toArray 47 (0,0)):=by
 rw[<-he];exact heap_setCell_same w P i _ _ v h
theorem results_o0{fn:Func}{p:Tmp}(h:fn.results= #[.cell p 47])(tmps:Array Value)(w:World){P:Nat}(x:Ob)(hx:w.heap[P]? =some (.cells (oc x).toArray 47 (0,0)))(hp:tmps.getD p undef= .pointer (some ⟨P,0,none⟩)):(results fn tmps).run Tryz.prog w= .ok (.agg (oc x).toArray) w:=
 results_cell_row h tmps w P 47 _ (0,0) _ hp hx Tryz.underlying47 rfl (by kernel_rfl)
theorem rrest(x:Ob)(w:World):Calls Tryz.prog 77 #[.agg (oc x).toArray] w fun e w' =>e= .returned (.agg (oc (rtO x)).toArray)/\Below w.heap.size w w':=by
 go_enter Tryz.func77,Tryz.ntmps77
 go_upto_region 1 with fail
 change Code.wp Tryz.prog _ _ _ ((w.alloc (.cells (oc x).toArray 47)).alloc (.cells (oc zob).toArray 47))
 obtain⟨wz,hwz⟩:∃W,W=(w.alloc (.cells (oc x).toArray 47)).alloc (.cells (oc zob).toArray 47):=⟨_,rfl⟩
 rw[<-hwz];have b0:Below w.heap.size w (w.alloc (.cells (oc x).toArray 47)):=(Below.refl _ _).alloc (Nat.le_refl _) _;have b1:Below (w.alloc (.cells (oc x).toArray 47)).heap.size (w.alloc (.cells (oc x).toArray 47)) wz:=by rw[hwz];exact(Below.refl _ _).alloc (Nat.le_refl _) _
 have HB:Hid (Below w.heap.size w wz):=Hd (below_via b0 b1);have HXo:Hid (wz.heap[w.heap.size]? =some (.cells (oc x).toArray 47 (0,0))):=Hd (Ro.below (Ro.new w _ 47) b1);have HXz:Hid (wz.heap[w.heap.size+1]? =some (.cells (oc zob).toArray 47 (0,0))):=Hd (by rw[hwz,show w.heap.size+1=(w.alloc (.cells (oc x).toArray 47)).heap.size by simp];exact heap_alloc_new _ _);clear hwz b0 b1;have c5:wz.cell? ⟨w.heap.size,5,none⟩=some (.int .i64 x.da):=by rw[cell_of_row wz w.heap.size 5 _ 47 (0,0) HXo.o];rfl
 have f5:wz.frozen? ⟨w.heap.size,5,none⟩=false:=by unfold World.frozen?;rw[HXo.o];simp
 have c7:wz.cell? ⟨w.heap.size,7,none⟩=some (.int .i64 x.pp):=by rw[cell_of_row wz w.heap.size 7 _ 47 (0,0) HXo.o];rfl
 have f7:wz.frozen? ⟨w.heap.size,7,none⟩=false:=by unfold World.frozen?;rw[HXo.o];simp
 have c8:wz.cell? ⟨w.heap.size,8,none⟩=some (.int .i64 x.pt):=by rw[cell_of_row wz w.heap.size 8 _ 47 (0,0) HXo.o];rfl
 have f8:wz.frozen? ⟨w.heap.size,8,none⟩=false:=by unfold World.frozen?;rw[HXo.o];simp
 go_upto_region 2 with fail
 obtain⟨w1,hw⟩:∃X,X=(((wz.setCell ⟨w.heap.size,5,none⟩ (.int .i64 0)).setCell ⟨w.heap.size,7,none⟩ (.int .i64 0)).setCell ⟨w.heap.size,8,none⟩ (.int .i64 0)):=⟨_,rfl⟩
 rw[<-hw];have hon:Onl [w.heap.size] wz w1:=by rw[hw];exact((((Onl.refl _ _).setCell (.inl (by simp)) _).setCell (.inl (by simp)) _).setCell (.inl (by simp)) _)
 replace HXo:Hid (w1.heap[w.heap.size]? =some (.cells (oc (rtO x)).toArray 47 (0,0))):=Hd (by rw[hw];exact(ob_put (x':=rtO x) (ob_put (x':={{x with da:=0} with pp:=0}) (ob_put (x':={x with da:=0}) HXo.o 5 _ rfl) 7 _ rfl) 8 _ rfl));replace HXz:Hid (w1.heap[w.heap.size+1]? =some (.cells (oc zob).toArray 47 (0,0))):=Hd (Ro.onl HXz.o hon (by simp));replace HB:=Hd (belowOnl HB.o hon (by simp) HB.o.size);clear hw hon c5 f5 c7 f7 c8 f8;go_wp2_with (first|(refine wpList_load_o (rtO x) _ rfl rfl HXo.o (by kernel_rfl) ?_)|(refine wpList_store_o rfl (rtO x) _ _ rfl rfl rfl HXz.o rfl ?_))
 intro w9 hw9;have ho9:Onl [w.heap.size+1] w1 w9:=by rw[hw9.out];exact Onl.setRow (Onl.refl _ _) (.inl (by simp)) _
 have HG9:Hid (w9.heap[w.heap.size+1]? =some (.cells (oc (rtO x)).toArray 47 (0,0))):=Hd (by rw[hw9.out];exact setRow_heap _ _ _ _ 47 _ HXz.o);have HB9:Hid (Below w.heap.size w w9):=Hd (belowOnl HB.o ho9 (by simp) HB.o.size);clear hw9 ho9;go_wp2_with fail
 exact bodyPost_ret (v:= .agg (oc (rtO x)).toArray) (results_o0 Tryz.results77 _ _ (rtO x) HG9.o rfl) rfl ⟨rfl,HB9.o⟩
theorem rreset(x:Ob)(z:Int)(w:World):Calls Tryz.prog 47 #[.agg (oc x).toArray,.int .i64 z] w fun e w' =>e= .returned (.agg (oc (rsO x z)).toArray)/\Below w.heap.size w w':=by
 go_enter Tryz.func47,Tryz.ntmps47
 go_upto_region 1 with fail
 change Code.wp Tryz.prog _ _ _ ((w.alloc (.cells (oc x).toArray 47)).alloc (.cells (oc zob).toArray 47))
 obtain⟨wz,hwz⟩:∃W,W=(w.alloc (.cells (oc x).toArray 47)).alloc (.cells (oc zob).toArray 47):=⟨_,rfl⟩
 rw[<-hwz];have b0:Below w.heap.size w (w.alloc (.cells (oc x).toArray 47)):=(Below.refl _ _).alloc (Nat.le_refl _) _;have b1:Below (w.alloc (.cells (oc x).toArray 47)).heap.size (w.alloc (.cells (oc x).toArray 47)) wz:=by rw[hwz];exact(Below.refl _ _).alloc (Nat.le_refl _) _
 have HB:Hid (Below w.heap.size w wz):=Hd (below_via b0 b1);have HXo:Hid (wz.heap[w.heap.size]? =some (.cells (oc x).toArray 47 (0,0))):=Hd (Ro.below (Ro.new w _ 47) b1);have HXz:Hid (wz.heap[w.heap.size+1]? =some (.cells (oc zob).toArray 47 (0,0))):=Hd (by rw[hwz,show w.heap.size+1=(w.alloc (.cells (oc x).toArray 47)).heap.size by simp];exact heap_alloc_new _ _);clear hwz b0 b1;go_wp2_with (refine wpList_load_o x _ rfl rfl HXo.o (by kernel_rfl) ?_)
 with_reducible refine(rrest x _).mono ?_
 rintro e w1 ⟨rfl,hb⟩;replace HB:=Hd (below_via HB.o hb);replace HXo:Hid (w1.heap[w.heap.size]? =some (.cells (oc x).toArray 47 (0,0))):=Hd (Ro.below HXo.o hb);replace HXz:Hid (w1.heap[w.heap.size+1]? =some (.cells (oc zob).toArray 47 (0,0))):=Hd (Ro.below HXz.o hb);clear hb;go_wp2_with (refine wpList_store_o rfl (rtO x) _ _ rfl rfl rfl HXo.o rfl ?_)
 intro w2 hw2;have hon:Onl [w.heap.size] w1 w2:=by rw[hw2.out];exact Onl.setRow (Onl.refl _ _) (.inl (by simp)) _
 replace HXo:Hid (w2.heap[w.heap.size]? =some (.cells (oc (rtO x)).toArray 47 (0,0))):=Hd (by rw[hw2.out];exact setRow_heap _ _ _ _ 47 _ HXo.o);replace HXz:Hid (w2.heap[w.heap.size+1]? =some (.cells (oc zob).toArray 47 (0,0))):=Hd (Ro.onl HXz.o hon (by simp));replace HB:=Hd (belowOnl HB.o hon (by simp) HB.o.size);clear hw2 hon;have c6:w2.cell? ⟨w.heap.size,6,none⟩=some (.int .i64 x.co):=by rw[cell_of_row w2 w.heap.size 6 _ 47 (0,0) HXo.o];rfl
 have f6:w2.frozen? ⟨w.heap.size,6,none⟩=false:=by unfold World.frozen?;rw[HXo.o];simp
 have c9:w2.cell? ⟨w.heap.size,9,none⟩=some (.bool x.ta):=by rw[cell_of_row w2 w.heap.size 9 _ 47 (0,0) HXo.o];rfl
 have f9:w2.frozen? ⟨w.heap.size,9,none⟩=false:=by unfold World.frozen?;rw[HXo.o];simp
 have c11:w2.cell? ⟨w.heap.size,11,none⟩=some (.bool x.dm):=by rw[cell_of_row w2 w.heap.size 11 _ 47 (0,0) HXo.o];rfl
 have f11:w2.frozen? ⟨w.heap.size,11,none⟩=false:=by unfold World.frozen?;rw[HXo.o];simp
 have c10:w2.cell? ⟨w.heap.size,10,none⟩=some (.bool x.si):=by rw[cell_of_row w2 w.heap.size 10 _ 47 (0,0) HXo.o];rfl
 have f10:w2.frozen? ⟨w.heap.size,10,none⟩=false:=by unfold World.frozen?;rw[HXo.o];simp
 go_upto_region 3 with fail
 obtain⟨w3,hw⟩:∃X,X=((((w2.setCell ⟨w.heap.size,6,none⟩ (.int .i64 0)).setCell ⟨w.heap.size,9,none⟩ (.bool false)).setCell ⟨w.heap.size,11,none⟩ (.bool false)).setCell ⟨w.heap.size,10,none⟩ (.bool (z==2))):=⟨_,rfl⟩
 rw[<-hw];have hon:Onl [w.heap.size] w2 w3:=by rw[hw];exact(((((Onl.refl _ _).setCell (.inl (by simp)) _).setCell (.inl (by simp)) _).setCell (.inl (by simp)) _).setCell (.inl (by simp)) _)
 replace HXo:Hid (w3.heap[w.heap.size]? =some (.cells (oc (rsO x z)).toArray 47 (0,0))):=Hd (by rw[hw];exact(ob_put (x':=rsO x z) (ob_put (x':={{{rtO x with co:=0} with ta:=false} with dm:=false}) (ob_put (x':={{rtO x with co:=0} with ta:=false}) (ob_put (x':={rtO x with co:=0}) HXo.o 6 _ rfl) 9 _ rfl) 11 _ rfl) 10 _ rfl));replace HXz:Hid (w3.heap[w.heap.size+1]? =some (.cells (oc zob).toArray 47 (0,0))):=Hd (Ro.onl HXz.o hon (by simp));replace HB:=Hd (belowOnl HB.o hon (by simp) HB.o.size);clear hw hon c6 f6 c9 f9 c11 f11 c10 f10;go_wp2_with (first|(refine wpList_load_o (rsO x z) _ rfl rfl HXo.o (by kernel_rfl) ?_)|(refine wpList_store_o rfl (rsO x z) _ _ rfl rfl rfl HXz.o rfl ?_))
 intro w9 hw9;have ho9:Onl [w.heap.size+1] w3 w9:=by rw[hw9.out];exact Onl.setRow (Onl.refl _ _) (.inl (by simp)) _
 have HG9:Hid (w9.heap[w.heap.size+1]? =some (.cells (oc (rsO x z)).toArray 47 (0,0))):=Hd (by rw[hw9.out];exact setRow_heap _ _ _ _ 47 _ HXz.o);have HB9:Hid (Below w.heap.size w w9):=Hd (belowOnl HB.o ho9 (by simp) HB.o.size);clear hw9 ho9;go_wp2_with fail
 exact bodyPost_ret (v:= .agg (oc (rsO x z)).toArray) (results_o0 Tryz.results47 _ _ (rsO x z) HG9.o rfl) rfl ⟨rfl,HB9.o⟩
theorem BdO.setO{lo hi:Nat}{w w':World}{s:Bs}{B:Bd}{g n cap:Nat}(h:BdO lo hi w s B)(hs:s.ob.v= .slice (some ⟨g,0,none⟩) n cap)(k:Nat)(x:Ob)(hk:k<B.ob.length)(hw:w' =w.setCells g (k*12) (oc x)):BdO lo hi w' s {B with ob:=B.ob.set k x}:=by
 have hob:=h.ob;rw[hs] at hob
 have hg:∃cur,w.heap[g]? =some (.cells cur 47 (0,0)):=by obtain⟨_,_,c,hc⟩:=hob.1.typ g rfl;exact⟨c,hc⟩
 have hon:Onl [g] w w':=by rw[hw];exact Onl.setCells _ _ _ (Onl.refl _ _) (.inl (by simp))
 have hr:=grown_onl hon;have ht:∀b,(some g:Option Nat)=some b->∃cur,w.heap[b]? =some (.cells cur 47 (0,0)):=fun b hb=>by cases hb;exact hg
 have hi2:∀{v:Value} {L:List It},ItO lo hi w v L->ItO lo hi w' v L:=fun h=>by
  obtain⟨l',g1,g2,g3⟩:=h
  exact⟨l',g1,g2.other hr ht (by decide) (Nat.le_refl _),fun x hx=>(g3 x hx).map (fun h=>h.other hr ht (by decide) (Nat.le_refl _))⟩
 refine⟨?_,fun j hj=>(h.il j hj).other hr ht (by decide) (Nat.le_refl _),h.nd,hi2 h.st,hi2 h.qu,h.ns,h.bl.other hr ht (by decide) (Nat.le_refl _)⟩
 show Ox oc 12 47 lo hi w' s.ob.v (B.ob.set k x)
 rw[hs,hw];exact hob.setn (fun x=>(oc_ok x).1) x hk _ rfl _ rfl
theorem rset(s:Bs)(B:Bd)(x:Ob)(k:Nat)(w:World)(h:BdR w s B)(hsm:B.Sm)(htl:B.Tl)(hk:∃y,B.ob[k]? =some y/\y.id=x.id)(hf:∀(j:Nat) (q:Ob),j<k->B.ob[j]? =some q->q.id≠x.id):Calls Tryz.prog 49 #[bv s B,.agg (oc x).toArray] w (CpA w ({B with ob:=B.ob.set k x})):=by
 have HR:=Hd h;have HSM:=Hd hsm;have HTL:=Hd htl;have HK:=Hd hk;have HF:=Hd hf;clear h hsm htl hk hf;go_enter Tryz.func49,Tryz.ntmps49
 go_upto_region 1 with fail
 change Code.wp Tryz.prog _ _ _ (((w.alloc (.cells (bcells s B) 34)).alloc (.cells (oc x).toArray 47)).alloc (.cells (bcells nilS zeroB) 34))
 obtain⟨wz,hwz⟩:∃W,W=(((w.alloc (.cells (bcells s B) 34)).alloc (.cells (oc x).toArray 47)).alloc (.cells (bcells nilS zeroB) 34)):=⟨_,rfl⟩
 rw[<-hwz];have b0:Below w.heap.size w (w.alloc (.cells (bcells s B) 34)):=by exact(Below.refl _ _).alloc (Nat.le_refl _) _
 have b1:Below (w.alloc (.cells (bcells s B) 34)).heap.size (w.alloc (.cells (bcells s B) 34)) ((w.alloc (.cells (bcells s B) 34)).alloc (.cells (oc x).toArray 47)):=by exact(Below.refl _ _).alloc (Nat.le_refl _) _
 have b2:Below ((w.alloc (.cells (bcells s B) 34)).alloc (.cells (oc x).toArray 47)).heap.size ((w.alloc (.cells (bcells s B) 34)).alloc (.cells (oc x).toArray 47)) wz:=by rw[hwz];exact(Below.refl _ _).alloc (Nat.le_refl _) _
 have HB:Hid (Below w.heap.size w wz):=Hd (below_via (below_via b0 b1) b2);have HXb:Hid (Bx wz (w.heap.size) s B):=Hd (((Ro.new w (bcells s B) 34).below b1:Ro _ _ _ _).below b2);have HXo:Hid (Ro wz (w.heap.size+1) (oc x).toArray 47):=Hd (by rw[show w.heap.size+1=(w.alloc (.cells (bcells s B) 34)).heap.size by simp];exact((Ro.new (w.alloc (.cells (bcells s B) 34)) (oc x).toArray 47).below b2:Ro _ _ _ _));have HXz:Hid (Bx wz (w.heap.size+1+1) nilS zeroB):=Hd (by rw[show w.heap.size+1+1=((w.alloc (.cells (bcells s B) 34)).alloc (.cells (oc x).toArray 47)).heap.size by simp];exact(by rw[hwz];exact(Ro.new ((w.alloc (.cells (bcells s B) 34)).alloc (.cells (oc x).toArray 47)) (bcells nilS zeroB) 34)));have HC1:Hid (w.heap.size+3<=wz.heap.size):=Hd (by rw[hwz];simp);clear hwz b0 b1 b2;go_wp2_with (first|(refine wpList_load_bx _ rfl rfl HXb.o (by kernel_rfl) ?_))
 with_reducible refine(rcopy s B _ (HR.o.below HB.o) HSM.o HTL.o).mono ?_
 rintro e w1 ⟨sc,rfl,ho,hb⟩;have HC2:Hid (wz.heap.size<=w1.heap.size):=Hd (hb.size);replace HB:=Hd (below_via HB.o hb);replace HXb:=Hd (HXb.o.below hb);replace HXo:=Hd (HXo.o.below hb);replace HXz:=Hd (HXz.o.below hb);have HOc:=Hd ho;clear ho hb;go_wp2_with (first|(refine wpList_store_bh (s:=sc) (B:=B) rfl _ _ rfl rfl rfl HXb.o rfl ?_))
 intro w2 hw0;have hon:Onl [w.heap.size] w1 w2:=by rw[hw0.out];exact Onl.setRow (Onl.refl _ _) (.inl (by simp)) _
 have hx:Bx w2 (w.heap.size) sc (B):=by rw[hw0.out];exact Bx.row HXb.o _ _
 clear hw0;have hlo:w.heap.size<=w.heap.size:=by(have o0:=HC1.o;have o1:=HC2.o;have x0:=HXb.o.lt;have x1:=HXo.o.lt;have x2:=HXz.o.lt;omega)
 have hls:w.heap.size<=w1.heap.size:=HB.o.size;replace HB:=Hd (belowOnl HB.o hon (by simp only[List.mem_singleton,forall_eq];exact hlo) hls);replace HXo:=Hd (HXo.o.onl hon (by simp only[List.mem_singleton];(have o0:=HC1.o;have o1:=HC2.o;have x0:=HXb.o.lt;have x1:=HXo.o.lt;have x2:=HXz.o.lt;omega)));replace HXz:=Hd (HXz.o.onl hon (by simp only[List.mem_singleton];(have o0:=HC1.o;have o1:=HC2.o;have x0:=HXb.o.lt;have x1:=HXo.o.lt;have x2:=HXz.o.lt;omega)));replace HOc:=Hd (HOc.o.onlB hon HXb.o);have HC3:Hid (w1.heap.size<=w2.heap.size):=Hd (hon.size);clear hlo hls;replace HXb:=Hd hx;clear hx hon;have d0:w2.cell? ⟨w.heap.size+1,0,none⟩=some (.int .i64 x.id):=HXo.o.cell 0;go_wp2_with (first|(refine wpList_load_bx _ rfl rfl HXb.o (by kernel_rfl) ?_))
 with_reducible refine(rindex sc B x.id _ HOc.o.rd).mono ?_
 rintro e w3 ⟨⟨r,rfl,hr⟩,hb⟩;have HC4:Hid (w2.heap.size<=w3.heap.size):=Hd (hb.size);replace HB:=Hd (below_via HB.o hb);replace HXb:=Hd (HXb.o.below hb);replace HXo:=Hd (HXo.o.below hb);replace HXz:=Hd (HXz.o.below hb);replace HOc:=Hd (HOc.o.below hb)
 obtain⟨y,hy,hyi⟩:=HK.o
 obtain rfl:r=k:=by
  rcases hr with⟨_,h1⟩|⟨i,q,rfl,h2,h3,h4⟩
  ·exact absurd hyi (h1 k y hy)
  rcases Nat.lt_trichotomy i k with h5|h5|h5
  ·exact absurd h3 (HF.o i q h5 h2)
  ·rw[h5]
  exact absurd hyi (h4 k y h5 hy)
 have hkl:k<B.ob.length:=(List.getElem?_eq_some_iff.1 hy).1;have HKL:=Hd hkl
 obtain⟨g,cap,hov,hg1,hg2,hg3⟩:=HOc.o.ob.pos (by omega)
 have HOV:=Hd hov;have c0:w3.cell? ⟨w.heap.size,0,none⟩=some (.slice (some ⟨g,0,none⟩) B.ob.length cap):=(HXb.o.cell 0).trans (congrArg some hov)
 have HTH:Hid (w3.there g (k*12) 12):=Hd (by
  have h1:=HOc.o.ob;rw[hov] at h1
  exact h1.there oc_len _ _ (by rw[<-Nat.succ_mul];exact Nat.mul_le_mul_right _ hkl))
 have t1:decide ((k:Int)>=0)=true:=decide_eq_true (by omega);have i1:(0:Int)<=(k:Int):=by omega
 have i2:(k:Int)<(B.ob.length:Int):=by omega
 clear hr hb hy hyi hg1 hg2 hg3 hov d0;go_wp2_with (first|(refine wpList_load_o x _ rfl rfl HXo.o (by kernel_rfl) ?_)|(refine wpList_store_mh rfl 47 _ _ rfl g (k*12) (oc x).toArray rfl rfl HTH.o rfl (arr_one (oc_ok x).2) ?_))
 intro w9 hw9;have hbo:=HOc.o.setO (w':=w9) HOV.o k x hkl hw9.out;have hon:Onl [g] w3 w9:=by rw[hw9.out];exact Onl.setCells _ _ _ (Onl.refl _ _) (.inl (by simp))
 have hgb:w.heap.size+1+1+1<=g:=by
  have h1:=HOc.o.ob;rw[HOV.o] at h1
  have h2:=(h1.blk (b:=g) rfl).1
  (have o0:=HC1.o;have o1:=HC2.o;have o2:=HC3.o;have o3:=HC4.o;have x0:=HXb.o.lt;have x1:=HXo.o.lt;have x2:=HXz.o.lt;omega)
 have hgu:g<w1.heap.size:=by
  have h1:=HOc.o.ob;rw[HOV.o] at h1
  exact(h1.blk (b:=g) rfl).2.1
 replace HOc:=Hd hbo;replace HB:=Hd (belowOnl HB.o hon (by simp only[List.mem_singleton,forall_eq];omega) HB.o.size);replace HXb:=Hd (HXb.o.onl hon (by simp only[List.mem_singleton];omega));replace HXz:=Hd (HXz.o.onl hon (by simp only[List.mem_singleton];omega));have HC9:Hid (w3.heap.size<=w9.heap.size):=Hd hon.size;clear hw9 hon hbo hgb hgu HXo c0 t1 i1 i2 hkl;replace HXb:Hid (Bx w9 w.heap.size sc ({B with ob:=B.ob.set k x})):=HXb;go_wp2_with (first|(refine wpList_load_bx _ rfl rfl HXb.o (by kernel_rfl) ?_)|(refine wpList_store_bh (s:=sc) (B:=({B with ob:=B.ob.set k x})) rfl _ _ rfl rfl rfl HXz.o rfl ?_;intro w4 hw9))
 have hg9:Bx w4 (w.heap.size+1+1) sc (({B with ob:=B.ob.set k x})):=by rw[hw9.out];exact Bx.row HXz.o _ _
 have ho9:Onl [w.heap.size+1+1] w9 w4:=by rw[hw9.out];exact Onl.setRow (Onl.refl _ _) (.inl (by simp)) _
 have hlo:w.heap.size<=w.heap.size+1+1:=by(have o0:=HC1.o;have o1:=HC2.o;have o2:=HC3.o;have o3:=HC4.o;have o4:=HC9.o;have x0:=HXb.o.lt;have x1:=HXz.o.lt;omega)
 have hb9:Below w.heap.size w w4:=belowOnl HB.o ho9 (by simp only[List.mem_singleton,forall_eq];exact hlo) HB.o.size;have HG9:=Hd hg9;have HPOST:Hid (CpA w (({B with ob:=B.ob.set k x})) (.returned (bv sc (({B with ob:=B.ob.set k x})))) w4):=Hd ⟨_,rfl,(HOc.o.onlB ho9 HXz.o).mono (by(have o0:=HC1.o;have o1:=HC2.o;have o2:=HC3.o;have o3:=HC4.o;have o4:=HC9.o;have x0:=HXb.o.lt;have x1:=HXz.o.lt;omega)) (by have h9:=ho9.size;(have o0:=HC1.o;have o1:=HC2.o;have o2:=HC3.o;have o3:=HC4.o;have o4:=HC9.o;have x0:=HXb.o.lt;have x1:=HXz.o.lt;omega)),hb9⟩;clear hw9 hg9 ho9 hb9 hlo;go_wp2_with fail
 exact bodyPost_ret (v:=bv sc (({B with ob:=B.ob.set k x}))) (results_b0 Tryz.results49 _ _ HG9.o rfl) rfl HPOST.o
def PtA(lo:Nat)(w:World)(B:Bd)(e:Ending)(w':World):Prop:=∃s',e= .returned (bv s' B)/\BdO lo w'.heap.size w' s' B/\Below w.heap.size w w'
theorem rput1(s:Bs)(B:Bd)(x:Ob)(p lo hi:Nat)(w:World)(h:BdO lo hi w s B)(hlo:lo<=w.heap.size)(hhi:hi<=w.heap.size)(hsm:B.Sm)(hp:p<2)(hox:x.ow=(p:Nat)):Calls Tryz.prog 48 #[bv s B,.agg (oc x).toArray,.int .i64 1] w (PtA lo w (B.setL p 1 ((B.seat p).hand++[x.id]))):=by
 have HLO:=Hd hlo;clear hlo;have HOi:=Hd h;have HSM:=Hd hsm;have HHI:=Hd hhi;have HPP:=Hd hp;clear h hsm hhi;go_enter Tryz.func48,Tryz.ntmps48
 go_upto_region 1 with fail
 change Code.wp Tryz.prog _ _ _ (((w.alloc (.cells (bcells s B) 34)).alloc (.cells (oc x).toArray 47)).alloc (.cells (bcells nilS zeroB) 34))
 obtain⟨wz,hwz⟩:∃W,W=(((w.alloc (.cells (bcells s B) 34)).alloc (.cells (oc x).toArray 47)).alloc (.cells (bcells nilS zeroB) 34)):=⟨_,rfl⟩
 rw[<-hwz];have b0:Below w.heap.size w (w.alloc (.cells (bcells s B) 34)):=by exact(Below.refl _ _).alloc (Nat.le_refl _) _
 have b1:Below (w.alloc (.cells (bcells s B) 34)).heap.size (w.alloc (.cells (bcells s B) 34)) ((w.alloc (.cells (bcells s B) 34)).alloc (.cells (oc x).toArray 47)):=by exact(Below.refl _ _).alloc (Nat.le_refl _) _
 have b2:Below ((w.alloc (.cells (bcells s B) 34)).alloc (.cells (oc x).toArray 47)).heap.size ((w.alloc (.cells (bcells s B) 34)).alloc (.cells (oc x).toArray 47)) wz:=by rw[hwz];exact(Below.refl _ _).alloc (Nat.le_refl _) _
 have HB:Hid (Below w.heap.size w wz):=Hd (below_via (below_via b0 b1) b2);have HXb:Hid (Bx wz (w.heap.size) s B):=Hd (((Ro.new w (bcells s B) 34).below b1:Ro _ _ _ _).below b2);have HXo:Hid (Ro wz (w.heap.size+1) (oc x).toArray 47):=Hd (by rw[show w.heap.size+1=(w.alloc (.cells (bcells s B) 34)).heap.size by simp];exact((Ro.new (w.alloc (.cells (bcells s B) 34)) (oc x).toArray 47).below b2:Ro _ _ _ _));have HXz:Hid (Bx wz (w.heap.size+1+1) nilS zeroB):=Hd (by rw[show w.heap.size+1+1=((w.alloc (.cells (bcells s B) 34)).alloc (.cells (oc x).toArray 47)).heap.size by simp];exact(by rw[hwz];exact(Ro.new ((w.alloc (.cells (bcells s B) 34)).alloc (.cells (oc x).toArray 47)) (bcells nilS zeroB) 34)));have HC1:Hid (w.heap.size+3<=wz.heap.size):=Hd (by rw[hwz];simp);clear hwz b0 b1 b2;replace HOi:=Hd (HOi.o.below HB.o);have d0:wz.cell? ⟨w.heap.size+1,0,none⟩=some (.int .i64 x.id):=HXo.o.cell 0;have d2:wz.cell? ⟨w.heap.size+1,2,none⟩=some (.int .i64 (p:Nat)):=by rw[<-hox];exact HXo.o.cell 2
 have i1:(0:Int)<=(p:Int):=by omega
 have i2:(p:Int)<2:=by omega
 obtain⟨za,zc,hzv⟩:=(HOi.o.il (4*p+1) (by omega)).1.form
 have ezl:s.isl (4*p+1)=s.zl p 1:=by unfold Bs.isl;rw[if_pos (by omega)];congr 1<;>omega
 have ezi:B.il (4*p+1)=(B.seat p).hand:=by unfold Bd.il;rw[if_pos (by omega)];rw[show(4*p+1) / 4=p by omega,show(4*p+1)%4=1 by omega];rfl
 rw[ezl,ezi] at hzv
 have hxz0:=HXb.o.zone (p:=p) (z:=1) hp (by omega)
 have k9:wz.cell? ⟨w.heap.size,1+p*14+6,none⟩=some (.slice za (B.seat p).hand.length zc):=by
  rw[show 1+p*14+6=1+p*14+5+1 by omega,hxz0];exact congrArg some hzv
 have HZR:Hid (Rw ic 1 wz (.slice za (B.seat p).hand.length zc) (B.seat p).hand):=Hd (by
  have h1:=(HOi.o.il (4*p+1) (by omega)).rw ic_len;rw[ezl,ezi,hzv] at h1
  exact h1)
 have HZL:Hid ((B.seat p).hand.length<=1000):=Hd (HSM.o.zs p 1);have hbz:w.heap.size<wz.heap.size:=HXb.o.lt;have hbo:w.heap.size+1<wz.heap.size:=HXo.o.lt;clear hzv ezl ezi hxz0 hox
 go_upto_region 6 with fail
 clear d2;refine rg48_6 (w0:=wz) (B:=wz.heap.size) (n:=wz.heap.size) (L:=[]) (by kernel_rfl) rfl (by kernel_rfl) (.t ⟨by go_grown,by go_size,(by simp[go_sem]<;>omega)⟩) (fun w61 K_w61 E_w61 F_w61=> ?_);have _ne:Nonempty (KX (wz.heap.size) wz (wz.heap.size) [] (fun _=>True)):=⟨⟨_,K_w61,E_w61⟩⟩
 repeat (go_big_quiet_step (fail))
 refine wpQuiet_nil ?_;have ra:=rck _ne k9 hbz;have rb:=rck _ne d0 hbo
 repeat (go_big_quiet_step (fail))
 refine wpQuiet_nil ?_;have KH_w61:=Hd K_w61;have hw_w61:=K_w61.below;have hz_w61:=K_w61.size;clear K_w61;clear E_w61 F_w61
 refine⟨fun K hK0=> ?_,fun K hK0=> ?_,trivial⟩
 ·skip
  have hK:=Hd hK0;clear hK0;have HL5:Hid (Below wz.heap.size wz w61):=Hd KH_w61.o.below;go_wp2_with (at_builtin;refine wpList_append_ow (f:=ic) (sz:=1) rfl _ _ 26 rfl w61.heap.size 3 _ 8 Tryz.underlying26 infoI rfl (by decide) _ [] rfl (Ow.nil _ _ _) ic_ok _ (B.seat p).hand rfl (HZR.o.below HL5.o) ?c2 ?c3 (Nat.le_refl _) ?_)
  case c2=>have h1:=HZL.o;simp[maxLen];omega
  case c3=>have h1:=HZL.o;simp;omega
  intro v5 w5 ho5 hg5 _
  try rw[List.nil_append] at ho5
  obtain⟨va,vc,rfl⟩:=ho5.form
  have hb5:Below w61.heap.size w61 w5:=(Below.refl _ _).grown hg5 (Nat.le_refl _) (fun q hq=>by simp[Value.ownBlock] at hq);have HO5:=Hd ho5;replace HL5:Hid (Below wz.heap.size wz w5):=Hd (below_via HL5.o hb5);have HS5:Hid (wz.heap.size<=w61.heap.size):=Hd (by have h1:=KH_w61.o.below.size;omega)

  clear ho5 hg5 hb5;go_wp2_with fail
  first|refine⟨rfl,?u,hK.o _ _ ?_⟩|refine⟨?u,hK.o _ _ ?_⟩
  case u=>exact⟨⟨_,(⟨HL5.o,HL5.o.size,by simp⟩:Kept wz.heap.size wz wz.heap.size [] w5),trivial⟩,rfl⟩
  clear hK K
  refine⟨fun K hK0=> ?_,trivial⟩
  have hK:=Hd hK0;clear hK0;go_wp2_with fail
  obtain⟨w8,hw8⟩:∃W,W=w5.alloc (.cells #[.int .i64 x.id] 3):=⟨_,rfl⟩
  rw[<-hw8];have hb8:Below w5.heap.size w5 w8:=by rw[hw8];exact(Below.refl _ _).alloc (Nat.le_refl _) _
  have HNO:Hid (Rw ic 1 w8 (.slice (some ⟨w5.heap.size,0,none⟩) 1 1) [x.id]):=Hd (by rw[hw8];exact Rw.one2 w5 3 x.id _ rfl 1 _ rfl);have HL8:Hid (Below wz.heap.size wz w8):=Hd (below_via HL5.o hb8);replace HO5:=Hd (HO5.o.below hb8);clear hw8 hb8
  first|refine⟨rfl,?u,hK.o _ _ ?_⟩|refine⟨?u,hK.o _ _ ?_⟩
  case u=>exact⟨⟨_,(⟨HL8.o,HL8.o.size,by simp⟩:Kept wz.heap.size wz wz.heap.size [] w8),trivial⟩,rfl⟩
  clear hK K
  refine⟨fun K hK0=> ?_,trivial⟩
  have hK:=Hd hK0;clear hK0;go_wp2_with (at_builtin;refine wpList_append_ow (f:=ic) (sz:=1) rfl _ _ 26 rfl wz.heap.size 3 _ 8 Tryz.underlying26 infoI rfl (by decide) _ (B.seat p).hand rfl (HO5.o.base (fun b hb=>by have h1:=(HO5.o.typ b hb).1;have h2:=HS5.o;omega)) ic_ok _ [x.id] rfl HNO.o ?c2 ?c3 HL8.o.size ?_)
  case c2=>have h1:=HZL.o;simp[maxLen];omega
  case c3=>have h1:=HZL.o;simp;omega
  intro v9 w9 ho9 hg9 _
  obtain⟨na,nc,rfl⟩:=ho9.form
  obtain⟨nn,hnn⟩:∃nn,nn=((B.seat p).hand++[x.id]).length:=⟨_,rfl⟩
  rw[<-hnn] at ho9 ⊢
  have hb9:Below wz.heap.size wz w9:=HL8.o.grown hg9 HL8.o.size (fun q hq=>by have h1:=(HO5.o.typ q hq).1;have h2:=HS5.o;omega);have HO9:=Hd (Ox.of ho9);have HL9:=Hd hb9;clear ho9 hg9 hb9 hnn
  first|refine⟨rfl,hK.o _ _ ?_⟩|refine hK.o _ _ ?_
  clear hK K
  repeat (go_big_quiet_step (fail))
  refine wpQuiet_nil ?_
  refine⟨fun K hK0=> ?_,trivial⟩
  have hK:=Hd hK0;clear hK0;replace HB:=Hd (below_via HB.o HL9.o);replace HXb:=Hd (HXb.o.below HL9.o);replace HXz:=Hd (HXz.o.below HL9.o);replace HOi:=Hd (HOi.o.below HL9.o);have HC9:Hid (wz.heap.size<=w9.heap.size):=Hd HL9.o.size
  have c9:w9.cell? ⟨w.heap.size,1+p*14+6,none⟩=some ((s.zl p 1).v):=by
   rw[show 1+p*14+6=1+p*14+5+1 by omega,HXb.o.zone (p:=p) (z:=1) HPP.o (by omega)]
   rfl
  have f9:=HXb.o.free (1+p*14+6);go_wp2_with fail
  obtain⟨w10,hw⟩:∃X,X=w9.setCell ⟨w.heap.size,1+p*14+6,none⟩ (.slice na nn nc):=⟨_,rfl⟩
  rw[<-hw];have hon:Onl [w.heap.size] w9 w10:=by rw[hw];exact Onl.setCell (Onl.refl _ _) (.inl (by simp)) _
  have hx:Bx w10 w.heap.size (s.setZ p 1 ⟨na,nn,nc⟩) (B.setL p 1 ((B.seat p).hand++[x.id])):=by
   rw[hw,show 1+p*14+6=1+p*14+5+1 by omega];exact HXb.o.putL (p:=p) (z:=1) HPP.o (by omega) ⟨na,nn,nc⟩ _
  have hbo:=(HOi.o.newZ (hi3:=w9.heap.size) (p:=p) (z:=1) HPP.o (by omega) ⟨na,nn,nc⟩ ((B.seat p).hand++[x.id]) HO9.o (by have h1:=HHI.o;have h2:=HC1.o;omega) (by have h0:=HLO.o;have h1:=HHI.o;have h2:=HC1.o;omega) (Nat.le_refl _) (by have h1:=HHI.o;have h2:=HC1.o;have h3:=HC9.o;omega)).onlB hon HXb.o;replace HOi:=Hd hbo;replace HB:=Hd (belowOnl HB.o hon (by simp) HB.o.size);replace HXz:=Hd (HXz.o.onl hon (by simp only[List.mem_singleton];omega));replace HXb:=Hd hx;have HC10:Hid (w9.heap.size<=w10.heap.size):=Hd hon.size;clear hw hon hx hbo c9 f9
  first|refine⟨rfl,hK.o _ _ ?_⟩|refine hK.o _ _ ?_
  clear hK K;clear _ne ra rb;go_wp2_with (first|(refine wpList_load_bx _ rfl rfl HXb.o (by kernel_rfl) ?_)|(refine wpList_store_bh (s:=(s.setZ p 1 ⟨na,nn,nc⟩)) (B:=(B.setL p 1 ((B.seat p).hand++[x.id]))) rfl _ _ rfl rfl rfl HXz.o rfl ?_;intro w11 hw11))
  have hg9:Bx w11 (w.heap.size+1+1) (s.setZ p 1 ⟨na,nn,nc⟩) (B.setL p 1 ((B.seat p).hand++[x.id])):=by rw[hw11.out];exact Bx.row HXz.o _ _
  have ho9:Onl [w.heap.size+1+1] w10 w11:=by rw[hw11.out];exact Onl.setRow (Onl.refl _ _) (.inl (by simp)) _
  have hb9:Below w.heap.size w w11:=belowOnl HB.o ho9 (by simp only[List.mem_singleton,forall_eq];omega) HB.o.size;have HG9:=Hd hg9;have HPOST:Hid (PtA lo w (B.setL p 1 ((B.seat p).hand++[x.id])) (.returned (bv (s.setZ p 1 ⟨na,nn,nc⟩) (B.setL p 1 ((B.seat p).hand++[x.id])))) w11):=Hd ⟨_,rfl,(HOi.o.onlB ho9 HXz.o).mono (Nat.le_refl _) (by have h1:=ho9.size;have h2:=HC10.o;omega),hb9⟩;clear hw11 hg9 ho9 hb9;go_wp2_with fail
  exact bodyPost_ret (v:=bv (s.setZ p 1 ⟨na,nn,nc⟩) (B.setL p 1 ((B.seat p).hand++[x.id]))) (results_b0 Tryz.results48 _ _ HG9.o rfl) rfl HPOST.o
 skip
 have hK:=Hd hK0;clear hK0;go_wp2_with fail
 obtain⟨w8,hw8⟩:∃W,W=w61.alloc (.cells #[.int .i64 x.id] 3):=⟨_,rfl⟩
 rw[<-hw8];have hb8:Below w61.heap.size w61 w8:=by rw[hw8];exact(Below.refl _ _).alloc (Nat.le_refl _) _
 have HNO:Hid (Rw ic 1 w8 (.slice (some ⟨w61.heap.size,0,none⟩) 1 1) [x.id]):=Hd (by rw[hw8];exact Rw.one2 w61 3 x.id _ rfl 1 _ rfl);have HL8:Hid (Below wz.heap.size wz w8):=Hd (below_via KH_w61.o.below hb8)

 clear hw8 hb8
 first|refine⟨rfl,?u,hK.o _ _ ?_⟩|refine⟨?u,hK.o _ _ ?_⟩
 case u=>exact⟨⟨_,(⟨HL8.o,HL8.o.size,by simp⟩:Kept wz.heap.size wz wz.heap.size [] w8),trivial⟩,rfl⟩
 clear hK K
 refine⟨fun K hK0=> ?_,trivial⟩
 have hK:=Hd hK0;clear hK0;have HL5:Hid (Below wz.heap.size wz w8):=Hd HL8.o;go_wp2_with (at_builtin;refine wpList_append_ow (f:=ic) (sz:=1) rfl _ _ 26 rfl w8.heap.size 3 _ 8 Tryz.underlying26 infoI rfl (by decide) _ [] rfl (Ow.nil _ _ _) ic_ok _ (B.seat p).hand rfl (HZR.o.below HL5.o) ?c2 ?c3 (Nat.le_refl _) ?_)
 case c2=>have h1:=HZL.o;simp[maxLen];omega
 case c3=>have h1:=HZL.o;simp;omega
 intro v5 w5 ho5 hg5 _
 try rw[List.nil_append] at ho5
 obtain⟨va,vc,rfl⟩:=ho5.form
 have hb5:Below w8.heap.size w8 w5:=(Below.refl _ _).grown hg5 (Nat.le_refl _) (fun q hq=>by simp[Value.ownBlock] at hq);have HO5:=Hd ho5;replace HL5:Hid (Below wz.heap.size wz w5):=Hd (below_via HL5.o hb5);have HS5:Hid (wz.heap.size<=w8.heap.size):=Hd (by have h1:=HL8.o.size;omega);replace HNO:=Hd (HNO.o.below hb5);clear ho5 hg5 hb5;go_wp2_with fail
 first|refine⟨rfl,?u,hK.o _ _ ?_⟩|refine⟨?u,hK.o _ _ ?_⟩
 case u=>exact⟨⟨_,(⟨HL5.o,HL5.o.size,by simp⟩:Kept wz.heap.size wz wz.heap.size [] w5),trivial⟩,rfl⟩
 clear hK K
 refine⟨fun K hK0=> ?_,trivial⟩
 have hK:=Hd hK0;clear hK0;go_wp2_with (at_builtin;refine wpList_append_ow (f:=ic) (sz:=1) rfl _ _ 26 rfl wz.heap.size 3 _ 8 Tryz.underlying26 infoI rfl (by decide) _ (B.seat p).hand rfl (HO5.o.base (fun b hb=>by have h1:=(HO5.o.typ b hb).1;have h2:=HS5.o;omega)) ic_ok _ [x.id] rfl HNO.o ?c2 ?c3 HL5.o.size ?_)
 case c2=>have h1:=HZL.o;simp[maxLen];omega
 case c3=>have h1:=HZL.o;simp;omega
 intro v9 w9 ho9 hg9 _
 obtain⟨na,nc,rfl⟩:=ho9.form
 obtain⟨nn,hnn⟩:∃nn,nn=((B.seat p).hand++[x.id]).length:=⟨_,rfl⟩
 rw[<-hnn] at ho9 ⊢
 have hb9:Below wz.heap.size wz w9:=HL5.o.grown hg9 HL5.o.size (fun q hq=>by have h1:=(HO5.o.typ q hq).1;have h2:=HS5.o;omega);have HO9:=Hd (Ox.of ho9);have HL9:=Hd hb9;clear ho9 hg9 hb9 hnn
 first|refine⟨rfl,hK.o _ _ ?_⟩|refine hK.o _ _ ?_
 clear hK K
 repeat (go_big_quiet_step (fail))
 refine wpQuiet_nil ?_
 refine⟨fun K hK0=> ?_,trivial⟩
 have hK:=Hd hK0;clear hK0;replace HB:=Hd (below_via HB.o HL9.o);replace HXb:=Hd (HXb.o.below HL9.o);replace HXz:=Hd (HXz.o.below HL9.o);replace HOi:=Hd (HOi.o.below HL9.o);have HC9:Hid (wz.heap.size<=w9.heap.size):=Hd HL9.o.size
 have c9:w9.cell? ⟨w.heap.size,1+p*14+6,none⟩=some ((s.zl p 1).v):=by
  rw[show 1+p*14+6=1+p*14+5+1 by omega,HXb.o.zone (p:=p) (z:=1) HPP.o (by omega)]
  rfl
 have f9:=HXb.o.free (1+p*14+6);go_wp2_with fail
 obtain⟨w10,hw⟩:∃X,X=w9.setCell ⟨w.heap.size,1+p*14+6,none⟩ (.slice na nn nc):=⟨_,rfl⟩
 rw[<-hw];have hon:Onl [w.heap.size] w9 w10:=by rw[hw];exact Onl.setCell (Onl.refl _ _) (.inl (by simp)) _
 have hx:Bx w10 w.heap.size (s.setZ p 1 ⟨na,nn,nc⟩) (B.setL p 1 ((B.seat p).hand++[x.id])):=by
  rw[hw,show 1+p*14+6=1+p*14+5+1 by omega];exact HXb.o.putL (p:=p) (z:=1) HPP.o (by omega) ⟨na,nn,nc⟩ _
 have hbo:=(HOi.o.newZ (hi3:=w9.heap.size) (p:=p) (z:=1) HPP.o (by omega) ⟨na,nn,nc⟩ ((B.seat p).hand++[x.id]) HO9.o (by have h1:=HHI.o;have h2:=HC1.o;omega) (by have h0:=HLO.o;have h1:=HHI.o;have h2:=HC1.o;omega) (Nat.le_refl _) (by have h1:=HHI.o;have h2:=HC1.o;have h3:=HC9.o;omega)).onlB hon HXb.o;replace HOi:=Hd hbo;replace HB:=Hd (belowOnl HB.o hon (by simp) HB.o.size);replace HXz:=Hd (HXz.o.onl hon (by simp only[List.mem_singleton];omega));replace HXb:=Hd hx;have HC10:Hid (w9.heap.size<=w10.heap.size):=Hd hon.size;clear hw hon hx hbo c9 f9
 first|refine⟨rfl,hK.o _ _ ?_⟩|refine hK.o _ _ ?_
 clear hK K;clear _ne ra rb;go_wp2_with (first|(refine wpList_load_bx _ rfl rfl HXb.o (by kernel_rfl) ?_)|(refine wpList_store_bh (s:=(s.setZ p 1 ⟨na,nn,nc⟩)) (B:=(B.setL p 1 ((B.seat p).hand++[x.id]))) rfl _ _ rfl rfl rfl HXz.o rfl ?_;intro w11 hw11))
 have hg9:Bx w11 (w.heap.size+1+1) (s.setZ p 1 ⟨na,nn,nc⟩) (B.setL p 1 ((B.seat p).hand++[x.id])):=by rw[hw11.out];exact Bx.row HXz.o _ _
 have ho9:Onl [w.heap.size+1+1] w10 w11:=by rw[hw11.out];exact Onl.setRow (Onl.refl _ _) (.inl (by simp)) _
 have hb9:Below w.heap.size w w11:=belowOnl HB.o ho9 (by simp only[List.mem_singleton,forall_eq];omega) HB.o.size;have HG9:=Hd hg9;have HPOST:Hid (PtA lo w (B.setL p 1 ((B.seat p).hand++[x.id])) (.returned (bv (s.setZ p 1 ⟨na,nn,nc⟩) (B.setL p 1 ((B.seat p).hand++[x.id])))) w11):=Hd ⟨_,rfl,(HOi.o.onlB ho9 HXz.o).mono (Nat.le_refl _) (by have h1:=ho9.size;have h2:=HC10.o;omega),hb9⟩;clear hw11 hg9 ho9 hb9;go_wp2_with fail
 exact bodyPost_ret (v:=bv (s.setZ p 1 ⟨na,nn,nc⟩) (B.setL p 1 ((B.seat p).hand++[x.id]))) (results_b0 Tryz.results48 _ _ HG9.o rfl) rfl HPOST.o
theorem rput2(s:Bs)(B:Bd)(x:Ob)(p lo hi:Nat)(w:World)(h:BdO lo hi w s B)(hlo:lo<=w.heap.size)(hhi:hi<=w.heap.size)(hsm:B.Sm)(hp:p<2)(hox:x.ow=(p:Nat)):Calls Tryz.prog 48 #[bv s B,.agg (oc x).toArray,.int .i64 2] w (PtA lo w (B.setL p 2 ((B.seat p).fld++[x.id]))):=by
 have HLO:=Hd hlo;clear hlo;have HOi:=Hd h;have HSM:=Hd hsm;have HHI:=Hd hhi;have HPP:=Hd hp;clear h hsm hhi;go_enter Tryz.func48,Tryz.ntmps48
 go_upto_region 1 with fail
 change Code.wp Tryz.prog _ _ _ (((w.alloc (.cells (bcells s B) 34)).alloc (.cells (oc x).toArray 47)).alloc (.cells (bcells nilS zeroB) 34))
 obtain⟨wz,hwz⟩:∃W,W=(((w.alloc (.cells (bcells s B) 34)).alloc (.cells (oc x).toArray 47)).alloc (.cells (bcells nilS zeroB) 34)):=⟨_,rfl⟩
 rw[<-hwz];have b0:Below w.heap.size w (w.alloc (.cells (bcells s B) 34)):=by exact(Below.refl _ _).alloc (Nat.le_refl _) _
 have b1:Below (w.alloc (.cells (bcells s B) 34)).heap.size (w.alloc (.cells (bcells s B) 34)) ((w.alloc (.cells (bcells s B) 34)).alloc (.cells (oc x).toArray 47)):=by exact(Below.refl _ _).alloc (Nat.le_refl _) _
 have b2:Below ((w.alloc (.cells (bcells s B) 34)).alloc (.cells (oc x).toArray 47)).heap.size ((w.alloc (.cells (bcells s B) 34)).alloc (.cells (oc x).toArray 47)) wz:=by rw[hwz];exact(Below.refl _ _).alloc (Nat.le_refl _) _
 have HB:Hid (Below w.heap.size w wz):=Hd (below_via (below_via b0 b1) b2);have HXb:Hid (Bx wz (w.heap.size) s B):=Hd (((Ro.new w (bcells s B) 34).below b1:Ro _ _ _ _).below b2);have HXo:Hid (Ro wz (w.heap.size+1) (oc x).toArray 47):=Hd (by rw[show w.heap.size+1=(w.alloc (.cells (bcells s B) 34)).heap.size by simp];exact((Ro.new (w.alloc (.cells (bcells s B) 34)) (oc x).toArray 47).below b2:Ro _ _ _ _));have HXz:Hid (Bx wz (w.heap.size+1+1) nilS zeroB):=Hd (by rw[show w.heap.size+1+1=((w.alloc (.cells (bcells s B) 34)).alloc (.cells (oc x).toArray 47)).heap.size by simp];exact(by rw[hwz];exact(Ro.new ((w.alloc (.cells (bcells s B) 34)).alloc (.cells (oc x).toArray 47)) (bcells nilS zeroB) 34)));have HC1:Hid (w.heap.size+3<=wz.heap.size):=Hd (by rw[hwz];simp);clear hwz b0 b1 b2;replace HOi:=Hd (HOi.o.below HB.o);have d0:wz.cell? ⟨w.heap.size+1,0,none⟩=some (.int .i64 x.id):=HXo.o.cell 0;have d2:wz.cell? ⟨w.heap.size+1,2,none⟩=some (.int .i64 (p:Nat)):=by rw[<-hox];exact HXo.o.cell 2
 have i1:(0:Int)<=(p:Int):=by omega
 have i2:(p:Int)<2:=by omega
 obtain⟨za,zc,hzv⟩:=(HOi.o.il (4*p+2) (by omega)).1.form
 have ezl:s.isl (4*p+2)=s.zl p 2:=by unfold Bs.isl;rw[if_pos (by omega)];congr 1<;>omega
 have ezi:B.il (4*p+2)=(B.seat p).fld:=by unfold Bd.il;rw[if_pos (by omega)];rw[show(4*p+2) / 4=p by omega,show(4*p+2)%4=2 by omega];rfl
 rw[ezl,ezi] at hzv
 have hxz0:=HXb.o.zone (p:=p) (z:=2) hp (by omega)
 have k9:wz.cell? ⟨w.heap.size,1+p*14+7,none⟩=some (.slice za (B.seat p).fld.length zc):=by
  rw[show 1+p*14+7=1+p*14+5+2 by omega,hxz0];exact congrArg some hzv
 have HZR:Hid (Rw ic 1 wz (.slice za (B.seat p).fld.length zc) (B.seat p).fld):=Hd (by
  have h1:=(HOi.o.il (4*p+2) (by omega)).rw ic_len;rw[ezl,ezi,hzv] at h1
  exact h1)
 have HZL:Hid ((B.seat p).fld.length<=1000):=Hd (HSM.o.zs p 2);have hbz:w.heap.size<wz.heap.size:=HXb.o.lt;have hbo:w.heap.size+1<wz.heap.size:=HXo.o.lt;clear hzv ezl ezi hxz0 hox
 go_upto_region 8 with fail
 clear d2;refine rg48_8 (w0:=wz) (B:=wz.heap.size) (n:=wz.heap.size) (L:=[]) (by kernel_rfl) rfl (by kernel_rfl) (.t ⟨by go_grown,by go_size,(by simp[go_sem]<;>omega)⟩) (fun w61 K_w61 E_w61 F_w61=> ?_);have _ne:Nonempty (KX (wz.heap.size) wz (wz.heap.size) [] (fun _=>True)):=⟨⟨_,K_w61,E_w61⟩⟩
 repeat (go_big_quiet_step (fail))
 refine wpQuiet_nil ?_;have ra:=rck _ne k9 hbz;have rb:=rck _ne d0 hbo
 repeat (go_big_quiet_step (fail))
 refine wpQuiet_nil ?_;have KH_w61:=Hd K_w61;have hw_w61:=K_w61.below;have hz_w61:=K_w61.size;clear K_w61;clear E_w61 F_w61
 refine⟨fun K hK0=> ?_,fun K hK0=> ?_,trivial⟩
 ·skip
  have hK:=Hd hK0;clear hK0;have HL5:Hid (Below wz.heap.size wz w61):=Hd KH_w61.o.below;go_wp2_with (at_builtin;refine wpList_append_ow (f:=ic) (sz:=1) rfl _ _ 26 rfl w61.heap.size 3 _ 8 Tryz.underlying26 infoI rfl (by decide) _ [] rfl (Ow.nil _ _ _) ic_ok _ (B.seat p).fld rfl (HZR.o.below HL5.o) ?c2 ?c3 (Nat.le_refl _) ?_)
  case c2=>have h1:=HZL.o;simp[maxLen];omega
  case c3=>have h1:=HZL.o;simp;omega
  intro v5 w5 ho5 hg5 _
  try rw[List.nil_append] at ho5
  obtain⟨va,vc,rfl⟩:=ho5.form
  have hb5:Below w61.heap.size w61 w5:=(Below.refl _ _).grown hg5 (Nat.le_refl _) (fun q hq=>by simp[Value.ownBlock] at hq);have HO5:=Hd ho5;replace HL5:Hid (Below wz.heap.size wz w5):=Hd (below_via HL5.o hb5);have HS5:Hid (wz.heap.size<=w61.heap.size):=Hd (by have h1:=KH_w61.o.below.size;omega)

  clear ho5 hg5 hb5;go_wp2_with fail
  first|refine⟨rfl,?u,hK.o _ _ ?_⟩|refine⟨?u,hK.o _ _ ?_⟩
  case u=>exact⟨⟨_,(⟨HL5.o,HL5.o.size,by simp⟩:Kept wz.heap.size wz wz.heap.size [] w5),trivial⟩,rfl⟩
  clear hK K
  refine⟨fun K hK0=> ?_,trivial⟩
  have hK:=Hd hK0;clear hK0;go_wp2_with fail
  obtain⟨w8,hw8⟩:∃W,W=w5.alloc (.cells #[.int .i64 x.id] 3):=⟨_,rfl⟩
  rw[<-hw8];have hb8:Below w5.heap.size w5 w8:=by rw[hw8];exact(Below.refl _ _).alloc (Nat.le_refl _) _
  have HNO:Hid (Rw ic 1 w8 (.slice (some ⟨w5.heap.size,0,none⟩) 1 1) [x.id]):=Hd (by rw[hw8];exact Rw.one2 w5 3 x.id _ rfl 1 _ rfl);have HL8:Hid (Below wz.heap.size wz w8):=Hd (below_via HL5.o hb8);replace HO5:=Hd (HO5.o.below hb8);clear hw8 hb8
  first|refine⟨rfl,?u,hK.o _ _ ?_⟩|refine⟨?u,hK.o _ _ ?_⟩
  case u=>exact⟨⟨_,(⟨HL8.o,HL8.o.size,by simp⟩:Kept wz.heap.size wz wz.heap.size [] w8),trivial⟩,rfl⟩
  clear hK K
  refine⟨fun K hK0=> ?_,trivial⟩
  have hK:=Hd hK0;clear hK0;go_wp2_with (at_builtin;refine wpList_append_ow (f:=ic) (sz:=1) rfl _ _ 26 rfl wz.heap.size 3 _ 8 Tryz.underlying26 infoI rfl (by decide) _ (B.seat p).fld rfl (HO5.o.base (fun b hb=>by have h1:=(HO5.o.typ b hb).1;have h2:=HS5.o;omega)) ic_ok _ [x.id] rfl HNO.o ?c2 ?c3 HL8.o.size ?_)
  case c2=>have h1:=HZL.o;simp[maxLen];omega
  case c3=>have h1:=HZL.o;simp;omega
  intro v9 w9 ho9 hg9 _
  obtain⟨na,nc,rfl⟩:=ho9.form
  obtain⟨nn,hnn⟩:∃nn,nn=((B.seat p).fld++[x.id]).length:=⟨_,rfl⟩
  rw[<-hnn] at ho9 ⊢
  have hb9:Below wz.heap.size wz w9:=HL8.o.grown hg9 HL8.o.size (fun q hq=>by have h1:=(HO5.o.typ q hq).1;have h2:=HS5.o;omega);have HO9:=Hd (Ox.of ho9);have HL9:=Hd hb9;clear ho9 hg9 hb9 hnn
  first|refine⟨rfl,hK.o _ _ ?_⟩|refine hK.o _ _ ?_
  clear hK K
  repeat (go_big_quiet_step (fail))
  refine wpQuiet_nil ?_
  refine⟨fun K hK0=> ?_,trivial⟩
  have hK:=Hd hK0;clear hK0;replace HB:=Hd (below_via HB.o HL9.o);replace HXb:=Hd (HXb.o.below HL9.o);replace HXz:=Hd (HXz.o.below HL9.o);replace HOi:=Hd (HOi.o.below HL9.o);have HC9:Hid (wz.heap.size<=w9.heap.size):=Hd HL9.o.size
  have c9:w9.cell? ⟨w.heap.size,1+p*14+7,none⟩=some ((s.zl p 2).v):=by
   rw[show 1+p*14+7=1+p*14+5+2 by omega,HXb.o.zone (p:=p) (z:=2) HPP.o (by omega)]
   rfl
  have f9:=HXb.o.free (1+p*14+7);go_wp2_with fail
  obtain⟨w10,hw⟩:∃X,X=w9.setCell ⟨w.heap.size,1+p*14+7,none⟩ (.slice na nn nc):=⟨_,rfl⟩
  rw[<-hw];have hon:Onl [w.heap.size] w9 w10:=by rw[hw];exact Onl.setCell (Onl.refl _ _) (.inl (by simp)) _
  have hx:Bx w10 w.heap.size (s.setZ p 2 ⟨na,nn,nc⟩) (B.setL p 2 ((B.seat p).fld++[x.id])):=by
   rw[hw,show 1+p*14+7=1+p*14+5+2 by omega];exact HXb.o.putL (p:=p) (z:=2) HPP.o (by omega) ⟨na,nn,nc⟩ _
  have hbo:=(HOi.o.newZ (hi3:=w9.heap.size) (p:=p) (z:=2) HPP.o (by omega) ⟨na,nn,nc⟩ ((B.seat p).fld++[x.id]) HO9.o (by have h1:=HHI.o;have h2:=HC1.o;omega) (by have h0:=HLO.o;have h1:=HHI.o;have h2:=HC1.o;omega) (Nat.le_refl _) (by have h1:=HHI.o;have h2:=HC1.o;have h3:=HC9.o;omega)).onlB hon HXb.o;replace HOi:=Hd hbo;replace HB:=Hd (belowOnl HB.o hon (by simp) HB.o.size);replace HXz:=Hd (HXz.o.onl hon (by simp only[List.mem_singleton];omega));replace HXb:=Hd hx;have HC10:Hid (w9.heap.size<=w10.heap.size):=Hd hon.size;clear hw hon hx hbo c9 f9
  first|refine⟨rfl,hK.o _ _ ?_⟩|refine hK.o _ _ ?_
  clear hK K;clear _ne ra rb;go_wp2_with (first|(refine wpList_load_bx _ rfl rfl HXb.o (by kernel_rfl) ?_)|(refine wpList_store_bh (s:=(s.setZ p 2 ⟨na,nn,nc⟩)) (B:=(B.setL p 2 ((B.seat p).fld++[x.id]))) rfl _ _ rfl rfl rfl HXz.o rfl ?_;intro w11 hw11))
  have hg9:Bx w11 (w.heap.size+1+1) (s.setZ p 2 ⟨na,nn,nc⟩) (B.setL p 2 ((B.seat p).fld++[x.id])):=by rw[hw11.out];exact Bx.row HXz.o _ _
  have ho9:Onl [w.heap.size+1+1] w10 w11:=by rw[hw11.out];exact Onl.setRow (Onl.refl _ _) (.inl (by simp)) _
  have hb9:Below w.heap.size w w11:=belowOnl HB.o ho9 (by simp only[List.mem_singleton,forall_eq];omega) HB.o.size;have HG9:=Hd hg9;have HPOST:Hid (PtA lo w (B.setL p 2 ((B.seat p).fld++[x.id])) (.returned (bv (s.setZ p 2 ⟨na,nn,nc⟩) (B.setL p 2 ((B.seat p).fld++[x.id])))) w11):=Hd ⟨_,rfl,(HOi.o.onlB ho9 HXz.o).mono (Nat.le_refl _) (by have h1:=ho9.size;have h2:=HC10.o;omega),hb9⟩;clear hw11 hg9 ho9 hb9;go_wp2_with fail
  exact bodyPost_ret (v:=bv (s.setZ p 2 ⟨na,nn,nc⟩) (B.setL p 2 ((B.seat p).fld++[x.id]))) (results_b0 Tryz.results48 _ _ HG9.o rfl) rfl HPOST.o
 skip
 have hK:=Hd hK0;clear hK0;go_wp2_with fail
 obtain⟨w8,hw8⟩:∃W,W=w61.alloc (.cells #[.int .i64 x.id] 3):=⟨_,rfl⟩
 rw[<-hw8];have hb8:Below w61.heap.size w61 w8:=by rw[hw8];exact(Below.refl _ _).alloc (Nat.le_refl _) _
 have HNO:Hid (Rw ic 1 w8 (.slice (some ⟨w61.heap.size,0,none⟩) 1 1) [x.id]):=Hd (by rw[hw8];exact Rw.one2 w61 3 x.id _ rfl 1 _ rfl);have HL8:Hid (Below wz.heap.size wz w8):=Hd (below_via KH_w61.o.below hb8)

 clear hw8 hb8
 first|refine⟨rfl,?u,hK.o _ _ ?_⟩|refine⟨?u,hK.o _ _ ?_⟩
 case u=>exact⟨⟨_,(⟨HL8.o,HL8.o.size,by simp⟩:Kept wz.heap.size wz wz.heap.size [] w8),trivial⟩,rfl⟩
 clear hK K
 refine⟨fun K hK0=> ?_,trivial⟩
 have hK:=Hd hK0;clear hK0;have HL5:Hid (Below wz.heap.size wz w8):=Hd HL8.o;go_wp2_with (at_builtin;refine wpList_append_ow (f:=ic) (sz:=1) rfl _ _ 26 rfl w8.heap.size 3 _ 8 Tryz.underlying26 infoI rfl (by decide) _ [] rfl (Ow.nil _ _ _) ic_ok _ (B.seat p).fld rfl (HZR.o.below HL5.o) ?c2 ?c3 (Nat.le_refl _) ?_)
 case c2=>have h1:=HZL.o;simp[maxLen];omega
 case c3=>have h1:=HZL.o;simp;omega
 intro v5 w5 ho5 hg5 _
 try rw[List.nil_append] at ho5
 obtain⟨va,vc,rfl⟩:=ho5.form
 have hb5:Below w8.heap.size w8 w5:=(Below.refl _ _).grown hg5 (Nat.le_refl _) (fun q hq=>by simp[Value.ownBlock] at hq);have HO5:=Hd ho5;replace HL5:Hid (Below wz.heap.size wz w5):=Hd (below_via HL5.o hb5);have HS5:Hid (wz.heap.size<=w8.heap.size):=Hd (by have h1:=HL8.o.size;omega);replace HNO:=Hd (HNO.o.below hb5);clear ho5 hg5 hb5;go_wp2_with fail
 first|refine⟨rfl,?u,hK.o _ _ ?_⟩|refine⟨?u,hK.o _ _ ?_⟩
 case u=>exact⟨⟨_,(⟨HL5.o,HL5.o.size,by simp⟩:Kept wz.heap.size wz wz.heap.size [] w5),trivial⟩,rfl⟩
 clear hK K
 refine⟨fun K hK0=> ?_,trivial⟩
 have hK:=Hd hK0;clear hK0;go_wp2_with (at_builtin;refine wpList_append_ow (f:=ic) (sz:=1) rfl _ _ 26 rfl wz.heap.size 3 _ 8 Tryz.underlying26 infoI rfl (by decide) _ (B.seat p).fld rfl (HO5.o.base (fun b hb=>by have h1:=(HO5.o.typ b hb).1;have h2:=HS5.o;omega)) ic_ok _ [x.id] rfl HNO.o ?c2 ?c3 HL5.o.size ?_)
 case c2=>have h1:=HZL.o;simp[maxLen];omega
 case c3=>have h1:=HZL.o;simp;omega
 intro v9 w9 ho9 hg9 _
 obtain⟨na,nc,rfl⟩:=ho9.form
 obtain⟨nn,hnn⟩:∃nn,nn=((B.seat p).fld++[x.id]).length:=⟨_,rfl⟩
 rw[<-hnn] at ho9 ⊢
 have hb9:Below wz.heap.size wz w9:=HL5.o.grown hg9 HL5.o.size (fun q hq=>by have h1:=(HO5.o.typ q hq).1;have h2:=HS5.o;omega);have HO9:=Hd (Ox.of ho9);have HL9:=Hd hb9;clear ho9 hg9 hb9 hnn
 first|refine⟨rfl,hK.o _ _ ?_⟩|refine hK.o _ _ ?_
 clear hK K
 repeat (go_big_quiet_step (fail))
 refine wpQuiet_nil ?_
 refine⟨fun K hK0=> ?_,trivial⟩
 have hK:=Hd hK0;clear hK0;replace HB:=Hd (below_via HB.o HL9.o);replace HXb:=Hd (HXb.o.below HL9.o);replace HXz:=Hd (HXz.o.below HL9.o);replace HOi:=Hd (HOi.o.below HL9.o);have HC9:Hid (wz.heap.size<=w9.heap.size):=Hd HL9.o.size
 have c9:w9.cell? ⟨w.heap.size,1+p*14+7,none⟩=some ((s.zl p 2).v):=by
  rw[show 1+p*14+7=1+p*14+5+2 by omega,HXb.o.zone (p:=p) (z:=2) HPP.o (by omega)]
  rfl
 have f9:=HXb.o.free (1+p*14+7);go_wp2_with fail
 obtain⟨w10,hw⟩:∃X,X=w9.setCell ⟨w.heap.size,1+p*14+7,none⟩ (.slice na nn nc):=⟨_,rfl⟩
 rw[<-hw];have hon:Onl [w.heap.size] w9 w10:=by rw[hw];exact Onl.setCell (Onl.refl _ _) (.inl (by simp)) _
 have hx:Bx w10 w.heap.size (s.setZ p 2 ⟨na,nn,nc⟩) (B.setL p 2 ((B.seat p).fld++[x.id])):=by
  rw[hw,show 1+p*14+7=1+p*14+5+2 by omega];exact HXb.o.putL (p:=p) (z:=2) HPP.o (by omega) ⟨na,nn,nc⟩ _
 have hbo:=(HOi.o.newZ (hi3:=w9.heap.size) (p:=p) (z:=2) HPP.o (by omega) ⟨na,nn,nc⟩ ((B.seat p).fld++[x.id]) HO9.o (by have h1:=HHI.o;have h2:=HC1.o;omega) (by have h0:=HLO.o;have h1:=HHI.o;have h2:=HC1.o;omega) (Nat.le_refl _) (by have h1:=HHI.o;have h2:=HC1.o;have h3:=HC9.o;omega)).onlB hon HXb.o;replace HOi:=Hd hbo;replace HB:=Hd (belowOnl HB.o hon (by simp) HB.o.size);replace HXz:=Hd (HXz.o.onl hon (by simp only[List.mem_singleton];omega));replace HXb:=Hd hx;have HC10:Hid (w9.heap.size<=w10.heap.size):=Hd hon.size;clear hw hon hx hbo c9 f9
 first|refine⟨rfl,hK.o _ _ ?_⟩|refine hK.o _ _ ?_
 clear hK K;clear _ne ra rb;go_wp2_with (first|(refine wpList_load_bx _ rfl rfl HXb.o (by kernel_rfl) ?_)|(refine wpList_store_bh (s:=(s.setZ p 2 ⟨na,nn,nc⟩)) (B:=(B.setL p 2 ((B.seat p).fld++[x.id]))) rfl _ _ rfl rfl rfl HXz.o rfl ?_;intro w11 hw11))
 have hg9:Bx w11 (w.heap.size+1+1) (s.setZ p 2 ⟨na,nn,nc⟩) (B.setL p 2 ((B.seat p).fld++[x.id])):=by rw[hw11.out];exact Bx.row HXz.o _ _
 have ho9:Onl [w.heap.size+1+1] w10 w11:=by rw[hw11.out];exact Onl.setRow (Onl.refl _ _) (.inl (by simp)) _
 have hb9:Below w.heap.size w w11:=belowOnl HB.o ho9 (by simp only[List.mem_singleton,forall_eq];omega) HB.o.size;have HG9:=Hd hg9;have HPOST:Hid (PtA lo w (B.setL p 2 ((B.seat p).fld++[x.id])) (.returned (bv (s.setZ p 2 ⟨na,nn,nc⟩) (B.setL p 2 ((B.seat p).fld++[x.id])))) w11):=Hd ⟨_,rfl,(HOi.o.onlB ho9 HXz.o).mono (Nat.le_refl _) (by have h1:=ho9.size;have h2:=HC10.o;omega),hb9⟩;clear hw11 hg9 ho9 hb9;go_wp2_with fail
 exact bodyPost_ret (v:=bv (s.setZ p 2 ⟨na,nn,nc⟩) (B.setL p 2 ((B.seat p).fld++[x.id]))) (results_b0 Tryz.results48 _ _ HG9.o rfl) rfl HPOST.o
theorem rput3(s:Bs)(B:Bd)(x:Ob)(p lo hi:Nat)(w:World)(h:BdO lo hi w s B)(hlo:lo<=w.heap.size)(hhi:hi<=w.heap.size)(hsm:B.Sm)(hp:p<2)(hox:x.ow=(p:Nat)):Calls Tryz.prog 48 #[bv s B,.agg (oc x).toArray,.int .i64 3] w (PtA lo w (B.setL p 3 ((B.seat p).grv++[x.id]))):=by
 have HLO:=Hd hlo;clear hlo;have HOi:=Hd h;have HSM:=Hd hsm;have HHI:=Hd hhi;have HPP:=Hd hp;clear h hsm hhi;go_enter Tryz.func48,Tryz.ntmps48
 go_upto_region 1 with fail
 change Code.wp Tryz.prog _ _ _ (((w.alloc (.cells (bcells s B) 34)).alloc (.cells (oc x).toArray 47)).alloc (.cells (bcells nilS zeroB) 34))
 obtain⟨wz,hwz⟩:∃W,W=(((w.alloc (.cells (bcells s B) 34)).alloc (.cells (oc x).toArray 47)).alloc (.cells (bcells nilS zeroB) 34)):=⟨_,rfl⟩
 rw[<-hwz];have b0:Below w.heap.size w (w.alloc (.cells (bcells s B) 34)):=by exact(Below.refl _ _).alloc (Nat.le_refl _) _
 have b1:Below (w.alloc (.cells (bcells s B) 34)).heap.size (w.alloc (.cells (bcells s B) 34)) ((w.alloc (.cells (bcells s B) 34)).alloc (.cells (oc x).toArray 47)):=by exact(Below.refl _ _).alloc (Nat.le_refl _) _
 have b2:Below ((w.alloc (.cells (bcells s B) 34)).alloc (.cells (oc x).toArray 47)).heap.size ((w.alloc (.cells (bcells s B) 34)).alloc (.cells (oc x).toArray 47)) wz:=by rw[hwz];exact(Below.refl _ _).alloc (Nat.le_refl _) _
 have HB:Hid (Below w.heap.size w wz):=Hd (below_via (below_via b0 b1) b2);have HXb:Hid (Bx wz (w.heap.size) s B):=Hd (((Ro.new w (bcells s B) 34).below b1:Ro _ _ _ _).below b2);have HXo:Hid (Ro wz (w.heap.size+1) (oc x).toArray 47):=Hd (by rw[show w.heap.size+1=(w.alloc (.cells (bcells s B) 34)).heap.size by simp];exact((Ro.new (w.alloc (.cells (bcells s B) 34)) (oc x).toArray 47).below b2:Ro _ _ _ _));have HXz:Hid (Bx wz (w.heap.size+1+1) nilS zeroB):=Hd (by rw[show w.heap.size+1+1=((w.alloc (.cells (bcells s B) 34)).alloc (.cells (oc x).toArray 47)).heap.size by simp];exact(by rw[hwz];exact(Ro.new ((w.alloc (.cells (bcells s B) 34)).alloc (.cells (oc x).toArray 47)) (bcells nilS zeroB) 34)));have HC1:Hid (w.heap.size+3<=wz.heap.size):=Hd (by rw[hwz];simp);clear hwz b0 b1 b2;replace HOi:=Hd (HOi.o.below HB.o);have d0:wz.cell? ⟨w.heap.size+1,0,none⟩=some (.int .i64 x.id):=HXo.o.cell 0;have d2:wz.cell? ⟨w.heap.size+1,2,none⟩=some (.int .i64 (p:Nat)):=by rw[<-hox];exact HXo.o.cell 2
 have i1:(0:Int)<=(p:Int):=by omega
 have i2:(p:Int)<2:=by omega
 obtain⟨za,zc,hzv⟩:=(HOi.o.il (4*p+3) (by omega)).1.form
 have ezl:s.isl (4*p+3)=s.zl p 3:=by unfold Bs.isl;rw[if_pos (by omega)];congr 1<;>omega
 have ezi:B.il (4*p+3)=(B.seat p).grv:=by unfold Bd.il;rw[if_pos (by omega)];rw[show(4*p+3) / 4=p by omega,show(4*p+3)%4=3 by omega];rfl
 rw[ezl,ezi] at hzv
 have hxz0:=HXb.o.zone (p:=p) (z:=3) hp (by omega)
 have k9:wz.cell? ⟨w.heap.size,1+p*14+8,none⟩=some (.slice za (B.seat p).grv.length zc):=by
  rw[show 1+p*14+8=1+p*14+5+3 by omega,hxz0];exact congrArg some hzv
 have HZR:Hid (Rw ic 1 wz (.slice za (B.seat p).grv.length zc) (B.seat p).grv):=Hd (by
  have h1:=(HOi.o.il (4*p+3) (by omega)).rw ic_len;rw[ezl,ezi,hzv] at h1
  exact h1)
 have HZL:Hid ((B.seat p).grv.length<=1000):=Hd (HSM.o.zs p 3);have hbz:w.heap.size<wz.heap.size:=HXb.o.lt;have hbo:w.heap.size+1<wz.heap.size:=HXo.o.lt;clear hzv ezl ezi hxz0 hox
 go_upto_region 10 with fail
 clear d2;refine rg48_10 (w0:=wz) (B:=wz.heap.size) (n:=wz.heap.size) (L:=[]) (by kernel_rfl) rfl (by kernel_rfl) (.t ⟨by go_grown,by go_size,(by simp[go_sem]<;>omega)⟩) (fun w61 K_w61 E_w61 F_w61=> ?_);have _ne:Nonempty (KX (wz.heap.size) wz (wz.heap.size) [] (fun _=>True)):=⟨⟨_,K_w61,E_w61⟩⟩
 repeat (go_big_quiet_step (fail))
 refine wpQuiet_nil ?_;have ra:=rck _ne k9 hbz;have rb:=rck _ne d0 hbo
 repeat (go_big_quiet_step (fail))
 refine wpQuiet_nil ?_;have KH_w61:=Hd K_w61;have hw_w61:=K_w61.below;have hz_w61:=K_w61.size;clear K_w61;clear E_w61 F_w61
 refine⟨fun K hK0=> ?_,fun K hK0=> ?_,trivial⟩
 ·skip
  have hK:=Hd hK0;clear hK0;have HL5:Hid (Below wz.heap.size wz w61):=Hd KH_w61.o.below;go_wp2_with (at_builtin;refine wpList_append_ow (f:=ic) (sz:=1) rfl _ _ 26 rfl w61.heap.size 3 _ 8 Tryz.underlying26 infoI rfl (by decide) _ [] rfl (Ow.nil _ _ _) ic_ok _ (B.seat p).grv rfl (HZR.o.below HL5.o) ?c2 ?c3 (Nat.le_refl _) ?_)
  case c2=>have h1:=HZL.o;simp[maxLen];omega
  case c3=>have h1:=HZL.o;simp;omega
  intro v5 w5 ho5 hg5 _
  try rw[List.nil_append] at ho5
  obtain⟨va,vc,rfl⟩:=ho5.form
  have hb5:Below w61.heap.size w61 w5:=(Below.refl _ _).grown hg5 (Nat.le_refl _) (fun q hq=>by simp[Value.ownBlock] at hq);have HO5:=Hd ho5;replace HL5:Hid (Below wz.heap.size wz w5):=Hd (below_via HL5.o hb5);have HS5:Hid (wz.heap.size<=w61.heap.size):=Hd (by have h1:=KH_w61.o.below.size;omega)

  clear ho5 hg5 hb5;go_wp2_with fail
  first|refine⟨rfl,?u,hK.o _ _ ?_⟩|refine⟨?u,hK.o _ _ ?_⟩
  case u=>exact⟨⟨_,(⟨HL5.o,HL5.o.size,by simp⟩:Kept wz.heap.size wz wz.heap.size [] w5),trivial⟩,rfl⟩
  clear hK K
  refine⟨fun K hK0=> ?_,trivial⟩
  have hK:=Hd hK0;clear hK0;go_wp2_with fail
  obtain⟨w8,hw8⟩:∃W,W=w5.alloc (.cells #[.int .i64 x.id] 3):=⟨_,rfl⟩
  rw[<-hw8];have hb8:Below w5.heap.size w5 w8:=by rw[hw8];exact(Below.refl _ _).alloc (Nat.le_refl _) _
  have HNO:Hid (Rw ic 1 w8 (.slice (some ⟨w5.heap.size,0,none⟩) 1 1) [x.id]):=Hd (by rw[hw8];exact Rw.one2 w5 3 x.id _ rfl 1 _ rfl);have HL8:Hid (Below wz.heap.size wz w8):=Hd (below_via HL5.o hb8);replace HO5:=Hd (HO5.o.below hb8);clear hw8 hb8
  first|refine⟨rfl,?u,hK.o _ _ ?_⟩|refine⟨?u,hK.o _ _ ?_⟩
  case u=>exact⟨⟨_,(⟨HL8.o,HL8.o.size,by simp⟩:Kept wz.heap.size wz wz.heap.size [] w8),trivial⟩,rfl⟩
  clear hK K
  refine⟨fun K hK0=> ?_,trivial⟩
  have hK:=Hd hK0;clear hK0;go_wp2_with (at_builtin;refine wpList_append_ow (f:=ic) (sz:=1) rfl _ _ 26 rfl wz.heap.size 3 _ 8 Tryz.underlying26 infoI rfl (by decide) _ (B.seat p).grv rfl (HO5.o.base (fun b hb=>by have h1:=(HO5.o.typ b hb).1;have h2:=HS5.o;omega)) ic_ok _ [x.id] rfl HNO.o ?c2 ?c3 HL8.o.size ?_)
  case c2=>have h1:=HZL.o;simp[maxLen];omega
  case c3=>have h1:=HZL.o;simp;omega
  intro v9 w9 ho9 hg9 _
  obtain⟨na,nc,rfl⟩:=ho9.form
  obtain⟨nn,hnn⟩:∃nn,nn=((B.seat p).grv++[x.id]).length:=⟨_,rfl⟩
  rw[<-hnn] at ho9 ⊢
  have hb9:Below wz.heap.size wz w9:=HL8.o.grown hg9 HL8.o.size (fun q hq=>by have h1:=(HO5.o.typ q hq).1;have h2:=HS5.o;omega);have HO9:=Hd (Ox.of ho9);have HL9:=Hd hb9;clear ho9 hg9 hb9 hnn
  first|refine⟨rfl,hK.o _ _ ?_⟩|refine hK.o _ _ ?_
  clear hK K
  repeat (go_big_quiet_step (fail))
  refine wpQuiet_nil ?_
  refine⟨fun K hK0=> ?_,trivial⟩
  have hK:=Hd hK0;clear hK0;replace HB:=Hd (below_via HB.o HL9.o);replace HXb:=Hd (HXb.o.below HL9.o);replace HXz:=Hd (HXz.o.below HL9.o);replace HOi:=Hd (HOi.o.below HL9.o);have HC9:Hid (wz.heap.size<=w9.heap.size):=Hd HL9.o.size
  have c9:w9.cell? ⟨w.heap.size,1+p*14+8,none⟩=some ((s.zl p 3).v):=by
   rw[show 1+p*14+8=1+p*14+5+3 by omega,HXb.o.zone (p:=p) (z:=3) HPP.o (by omega)]
   rfl
  have f9:=HXb.o.free (1+p*14+8);go_wp2_with fail
  obtain⟨w10,hw⟩:∃X,X=w9.setCell ⟨w.heap.size,1+p*14+8,none⟩ (.slice na nn nc):=⟨_,rfl⟩
  rw[<-hw];have hon:Onl [w.heap.size] w9 w10:=by rw[hw];exact Onl.setCell (Onl.refl _ _) (.inl (by simp)) _
  have hx:Bx w10 w.heap.size (s.setZ p 3 ⟨na,nn,nc⟩) (B.setL p 3 ((B.seat p).grv++[x.id])):=by
   rw[hw,show 1+p*14+8=1+p*14+5+3 by omega];exact HXb.o.putL (p:=p) (z:=3) HPP.o (by omega) ⟨na,nn,nc⟩ _
  have hbo:=(HOi.o.newZ (hi3:=w9.heap.size) (p:=p) (z:=3) HPP.o (by omega) ⟨na,nn,nc⟩ ((B.seat p).grv++[x.id]) HO9.o (by have h1:=HHI.o;have h2:=HC1.o;omega) (by have h0:=HLO.o;have h1:=HHI.o;have h2:=HC1.o;omega) (Nat.le_refl _) (by have h1:=HHI.o;have h2:=HC1.o;have h3:=HC9.o;omega)).onlB hon HXb.o;replace HOi:=Hd hbo;replace HB:=Hd (belowOnl HB.o hon (by simp) HB.o.size);replace HXz:=Hd (HXz.o.onl hon (by simp only[List.mem_singleton];omega));replace HXb:=Hd hx;have HC10:Hid (w9.heap.size<=w10.heap.size):=Hd hon.size;clear hw hon hx hbo c9 f9
  first|refine⟨rfl,hK.o _ _ ?_⟩|refine hK.o _ _ ?_
  clear hK K;clear _ne ra rb;go_wp2_with (first|(refine wpList_load_bx _ rfl rfl HXb.o (by kernel_rfl) ?_)|(refine wpList_store_bh (s:=(s.setZ p 3 ⟨na,nn,nc⟩)) (B:=(B.setL p 3 ((B.seat p).grv++[x.id]))) rfl _ _ rfl rfl rfl HXz.o rfl ?_;intro w11 hw11))
  have hg9:Bx w11 (w.heap.size+1+1) (s.setZ p 3 ⟨na,nn,nc⟩) (B.setL p 3 ((B.seat p).grv++[x.id])):=by rw[hw11.out];exact Bx.row HXz.o _ _
  have ho9:Onl [w.heap.size+1+1] w10 w11:=by rw[hw11.out];exact Onl.setRow (Onl.refl _ _) (.inl (by simp)) _
  have hb9:Below w.heap.size w w11:=belowOnl HB.o ho9 (by simp only[List.mem_singleton,forall_eq];omega) HB.o.size;have HG9:=Hd hg9;have HPOST:Hid (PtA lo w (B.setL p 3 ((B.seat p).grv++[x.id])) (.returned (bv (s.setZ p 3 ⟨na,nn,nc⟩) (B.setL p 3 ((B.seat p).grv++[x.id])))) w11):=Hd ⟨_,rfl,(HOi.o.onlB ho9 HXz.o).mono (Nat.le_refl _) (by have h1:=ho9.size;have h2:=HC10.o;omega),hb9⟩;clear hw11 hg9 ho9 hb9;go_wp2_with fail
  exact bodyPost_ret (v:=bv (s.setZ p 3 ⟨na,nn,nc⟩) (B.setL p 3 ((B.seat p).grv++[x.id]))) (results_b0 Tryz.results48 _ _ HG9.o rfl) rfl HPOST.o
 skip
 have hK:=Hd hK0;clear hK0;go_wp2_with fail
 obtain⟨w8,hw8⟩:∃W,W=w61.alloc (.cells #[.int .i64 x.id] 3):=⟨_,rfl⟩
 rw[<-hw8];have hb8:Below w61.heap.size w61 w8:=by rw[hw8];exact(Below.refl _ _).alloc (Nat.le_refl _) _
 have HNO:Hid (Rw ic 1 w8 (.slice (some ⟨w61.heap.size,0,none⟩) 1 1) [x.id]):=Hd (by rw[hw8];exact Rw.one2 w61 3 x.id _ rfl 1 _ rfl);have HL8:Hid (Below wz.heap.size wz w8):=Hd (below_via KH_w61.o.below hb8)

 clear hw8 hb8
 first|refine⟨rfl,?u,hK.o _ _ ?_⟩|refine⟨?u,hK.o _ _ ?_⟩
 case u=>exact⟨⟨_,(⟨HL8.o,HL8.o.size,by simp⟩:Kept wz.heap.size wz wz.heap.size [] w8),trivial⟩,rfl⟩
 clear hK K
 refine⟨fun K hK0=> ?_,trivial⟩
 have hK:=Hd hK0;clear hK0;have HL5:Hid (Below wz.heap.size wz w8):=Hd HL8.o;go_wp2_with (at_builtin;refine wpList_append_ow (f:=ic) (sz:=1) rfl _ _ 26 rfl w8.heap.size 3 _ 8 Tryz.underlying26 infoI rfl (by decide) _ [] rfl (Ow.nil _ _ _) ic_ok _ (B.seat p).grv rfl (HZR.o.below HL5.o) ?c2 ?c3 (Nat.le_refl _) ?_)
 case c2=>have h1:=HZL.o;simp[maxLen];omega
 case c3=>have h1:=HZL.o;simp;omega
 intro v5 w5 ho5 hg5 _
 try rw[List.nil_append] at ho5
 obtain⟨va,vc,rfl⟩:=ho5.form
 have hb5:Below w8.heap.size w8 w5:=(Below.refl _ _).grown hg5 (Nat.le_refl _) (fun q hq=>by simp[Value.ownBlock] at hq);have HO5:=Hd ho5;replace HL5:Hid (Below wz.heap.size wz w5):=Hd (below_via HL5.o hb5);have HS5:Hid (wz.heap.size<=w8.heap.size):=Hd (by have h1:=HL8.o.size;omega);replace HNO:=Hd (HNO.o.below hb5);clear ho5 hg5 hb5;go_wp2_with fail
 first|refine⟨rfl,?u,hK.o _ _ ?_⟩|refine⟨?u,hK.o _ _ ?_⟩
 case u=>exact⟨⟨_,(⟨HL5.o,HL5.o.size,by simp⟩:Kept wz.heap.size wz wz.heap.size [] w5),trivial⟩,rfl⟩
 clear hK K
 refine⟨fun K hK0=> ?_,trivial⟩
 have hK:=Hd hK0;clear hK0;go_wp2_with (at_builtin;refine wpList_append_ow (f:=ic) (sz:=1) rfl _ _ 26 rfl wz.heap.size 3 _ 8 Tryz.underlying26 infoI rfl (by decide) _ (B.seat p).grv rfl (HO5.o.base (fun b hb=>by have h1:=(HO5.o.typ b hb).1;have h2:=HS5.o;omega)) ic_ok _ [x.id] rfl HNO.o ?c2 ?c3 HL5.o.size ?_)
 case c2=>have h1:=HZL.o;simp[maxLen];omega
 case c3=>have h1:=HZL.o;simp;omega
 intro v9 w9 ho9 hg9 _
 obtain⟨na,nc,rfl⟩:=ho9.form
 obtain⟨nn,hnn⟩:∃nn,nn=((B.seat p).grv++[x.id]).length:=⟨_,rfl⟩
 rw[<-hnn] at ho9 ⊢
 have hb9:Below wz.heap.size wz w9:=HL5.o.grown hg9 HL5.o.size (fun q hq=>by have h1:=(HO5.o.typ q hq).1;have h2:=HS5.o;omega);have HO9:=Hd (Ox.of ho9);have HL9:=Hd hb9;clear ho9 hg9 hb9 hnn
 first|refine⟨rfl,hK.o _ _ ?_⟩|refine hK.o _ _ ?_
 clear hK K
 repeat (go_big_quiet_step (fail))
 refine wpQuiet_nil ?_
 refine⟨fun K hK0=> ?_,trivial⟩
 have hK:=Hd hK0;clear hK0;replace HB:=Hd (below_via HB.o HL9.o);replace HXb:=Hd (HXb.o.below HL9.o);replace HXz:=Hd (HXz.o.below HL9.o);replace HOi:=Hd (HOi.o.below HL9.o);have HC9:Hid (wz.heap.size<=w9.heap.size):=Hd HL9.o.size
 have c9:w9.cell? ⟨w.heap.size,1+p*14+8,none⟩=some ((s.zl p 3).v):=by
  rw[show 1+p*14+8=1+p*14+5+3 by omega,HXb.o.zone (p:=p) (z:=3) HPP.o (by omega)]
  rfl
 have f9:=HXb.o.free (1+p*14+8);go_wp2_with fail
 obtain⟨w10,hw⟩:∃X,X=w9.setCell ⟨w.heap.size,1+p*14+8,none⟩ (.slice na nn nc):=⟨_,rfl⟩
 rw[<-hw];have hon:Onl [w.heap.size] w9 w10:=by rw[hw];exact Onl.setCell (Onl.refl _ _) (.inl (by simp)) _
 have hx:Bx w10 w.heap.size (s.setZ p 3 ⟨na,nn,nc⟩) (B.setL p 3 ((B.seat p).grv++[x.id])):=by
  rw[hw,show 1+p*14+8=1+p*14+5+3 by omega];exact HXb.o.putL (p:=p) (z:=3) HPP.o (by omega) ⟨na,nn,nc⟩ _
 have hbo:=(HOi.o.newZ (hi3:=w9.heap.size) (p:=p) (z:=3) HPP.o (by omega) ⟨na,nn,nc⟩ ((B.seat p).grv++[x.id]) HO9.o (by have h1:=HHI.o;have h2:=HC1.o;omega) (by have h0:=HLO.o;have h1:=HHI.o;have h2:=HC1.o;omega) (Nat.le_refl _) (by have h1:=HHI.o;have h2:=HC1.o;have h3:=HC9.o;omega)).onlB hon HXb.o;replace HOi:=Hd hbo;replace HB:=Hd (belowOnl HB.o hon (by simp) HB.o.size);replace HXz:=Hd (HXz.o.onl hon (by simp only[List.mem_singleton];omega));replace HXb:=Hd hx;have HC10:Hid (w9.heap.size<=w10.heap.size):=Hd hon.size;clear hw hon hx hbo c9 f9
 first|refine⟨rfl,hK.o _ _ ?_⟩|refine hK.o _ _ ?_
 clear hK K;clear _ne ra rb;go_wp2_with (first|(refine wpList_load_bx _ rfl rfl HXb.o (by kernel_rfl) ?_)|(refine wpList_store_bh (s:=(s.setZ p 3 ⟨na,nn,nc⟩)) (B:=(B.setL p 3 ((B.seat p).grv++[x.id]))) rfl _ _ rfl rfl rfl HXz.o rfl ?_;intro w11 hw11))
 have hg9:Bx w11 (w.heap.size+1+1) (s.setZ p 3 ⟨na,nn,nc⟩) (B.setL p 3 ((B.seat p).grv++[x.id])):=by rw[hw11.out];exact Bx.row HXz.o _ _
 have ho9:Onl [w.heap.size+1+1] w10 w11:=by rw[hw11.out];exact Onl.setRow (Onl.refl _ _) (.inl (by simp)) _
 have hb9:Below w.heap.size w w11:=belowOnl HB.o ho9 (by simp only[List.mem_singleton,forall_eq];omega) HB.o.size;have HG9:=Hd hg9;have HPOST:Hid (PtA lo w (B.setL p 3 ((B.seat p).grv++[x.id])) (.returned (bv (s.setZ p 3 ⟨na,nn,nc⟩) (B.setL p 3 ((B.seat p).grv++[x.id])))) w11):=Hd ⟨_,rfl,(HOi.o.onlB ho9 HXz.o).mono (Nat.le_refl _) (by have h1:=ho9.size;have h2:=HC10.o;omega),hb9⟩;clear hw11 hg9 ho9 hb9;go_wp2_with fail
 exact bodyPost_ret (v:=bv (s.setZ p 3 ⟨na,nn,nc⟩) (B.setL p 3 ((B.seat p).grv++[x.id]))) (results_b0 Tryz.results48 _ _ HG9.o rfl) rfl HPOST.o
end Go.Proofs.YtpbepnpnpopmfaaGreat
