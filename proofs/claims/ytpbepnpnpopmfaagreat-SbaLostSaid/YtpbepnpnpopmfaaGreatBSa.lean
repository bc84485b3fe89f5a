/- Boards that are equal, by the reference: of equal ones it says so. -/
import Derived.Test.YtpbepnpnpopmfaaGreatBSm
import Derived.Test.YtpbepnpnpopmfaaGreatTDx
import Derived.Deep.DeepCutAuto
import Derived.LoopTactic
import Derived.Deep.MidRow
import Derived.ChangeKeysEq
open Go.RowKit Go.Proofs.YtpbepnpnpopmfaaGreat
namespace Go.Proofs.YtpbepnpnpopmfaaGreat
open Plain
set_option linter.unusedVariables false
set_option linter.unusedSimpArgs false

theorem manaEqG(a b c d a' b' c' d':Int)(w:World):(Op.equalIn 10000 25 (.agg #[.int .i64 a,.int .i64 b,.int .i64 c,.int .i64 d]) (.agg #[.int .i64 a',.int .i64 b',.int .i64 c',.int .i64 d'])).run Tryz.prog w= .ok (a==a'&&(b==b'&&(c==c'&&d==d'))) w:=by
 obtain⟨i,hi⟩:∃i,Tryz.prog.info? 3=some i:=by
  have h:=infoI
  cases hh:Tryz.prog.info? 3 with
  |none=>rw[hh] at h;simp at h
  |some i=>exact⟨i,rfl⟩
 have hc:Tryz.prog.cellsOf 3=1:=by kernel_rfl
 have p:∀(w1:World) (xs:Array Value) (k:Nat) (z:Int),xs[k]? =some (.int .i64 z)->(part 3 xs k).run Tryz.prog w1= .ok (.int .i64 z) w1:=fun w1 xs k z h=>by
  have hu:=Tryz.underlying3;simp[part,Sem.run_bind,h]
 have e:∀x y,(Op.equalIn 9999 3 (.int .i64 x) (.int .i64 y)).run Tryz.prog w= .ok (x==y) w:=fun x y=>run_equalIn_int w 9998 3 .i64 .i64 _ _ Tryz.underlying3
 have q0:=p w #[.int .i64 a,.int .i64 b,.int .i64 c,.int .i64 d] 0 a rfl;have q1:=p w #[.int .i64 a,.int .i64 b,.int .i64 c,.int .i64 d] 1 b rfl;have q2:=p w #[.int .i64 a,.int .i64 b,.int .i64 c,.int .i64 d] 2 c rfl;have q3:=p w #[.int .i64 a,.int .i64 b,.int .i64 c,.int .i64 d] 3 d rfl;have s0:=p w #[.int .i64 a',.int .i64 b',.int .i64 c',.int .i64 d'] 0 a' rfl;have s1:=p w #[.int .i64 a',.int .i64 b',.int .i64 c',.int .i64 d'] 1 b' rfl;have s2:=p w #[.int .i64 a',.int .i64 b',.int .i64 c',.int .i64 d'] 2 c' rfl;have s3:=p w #[.int .i64 a',.int .i64 b',.int .i64 c',.int .i64 d'] 3 d' rfl;have r:List.range 4=[0,1,2,3]:=rfl;rw[run_equalIn_array w 9999 _ _ Tryz.underlying25 hi,hc,r];clear p;simp only[Op.eqItems,Sem.run_bind,Sem.run_ite,Sem.run_pure,Nat.mul_one,q0,q1,q2,q3,s0,s1,s2,s3,e,Result.andThen_ok]
 by_cases h1:a=a'<;>by_cases h2:b=b'<;>by_cases h3:c=c'<;>by_cases h4:d=d'<;>simp[h1,h2,h3,h4]
theorem rg13_6{P:Program}{B n:Nat}{w0:World}{L:List (Nat×Nat×Value)}{E F:World->Prop}{id:Nat}{Q:Exit->Act->World->Prop}{a:Act}{w:World}{A:Array Oper}{o0 o1 o2 o3 o4 o5 o6 o7 o8 o9 o10:Oper}(hm:P.follows .mixedOrders=true)(hA:A=[o0,o1,o2,o3,o4,o5,o6,o7,o8,o9,o10].toArray)(hB:regOk A [1,4,6,9] [0,2,3,5,7,8,10] (.fs [0,2,5,7] (.rs [1] (.fs [3] (.rs [4,6] (.fs [8] (.rs [9] (.fs [10] .done)))))))=true)(c:RC B w0 n L E F w)
  (h:∀wk,Kept B w0 n L wk->E wk->F wk->wpQuiet P A (fun _=>True) (fun a0=>wpQuiet P A (fun w' =>∃s:KX B w0 n L E,w' =s.val) (fun a1=>wpQuiet P A (fun _=>True) (fun a2=>wpQuiet P A (fun w' =>∃s:KX B w0 n L E,w' =s.val) (fun a3=>wpQuiet P A (fun _=>True) (fun a4=>wpQuiet P A (fun w' =>∃s:KX B w0 n L E,w' =s.val) (fun a5=>wpQuiet P A (fun _=>True) (fun a6=>Q .normal a6 wk) [o10] a5) [o9] a4) [o8] a3) [o4,o6] a2) [o3] a1) [o1] a0) [o0,o2,o5,o7] a):(Code.region id A true).wp P Q a w:=by
 subst hA;exact wp_reg _ _ _ hm hB c (fun wk k e f=>have g:=h wk k e f;Scr.of_fs _ _ rfl g fun _ g=>Scr.of_rs _ _ rfl g fun _ g=>Scr.of_fs _ _ rfl g fun _ g=>Scr.of_rs _ _ rfl g fun _ g=>Scr.of_fs _ _ rfl g fun _ g=>Scr.of_rs _ _ rfl g fun _ g=>Scr.of_fs _ _ rfl g fun _ g=>g)
theorem rg13_11{P:Program}{B n:Nat}{w0:World}{L:List (Nat×Nat×Value)}{E F:World->Prop}{id:Nat}{Q:Exit->Act->World->Prop}{a:Act}{w:World}{A:Array Oper}{o0 o1 o2 o3 o4 o5 o6 o7 o8 o9 o10:Oper}(hm:P.follows .mixedOrders=true)(hA:A=[o0,o1,o2,o3,o4,o5,o6,o7,o8,o9,o10].toArray)(hB:regOk A [1,4,6,9] [0,2,3,5,7,8,10] (.fs [0,2,5,7] (.rs [1] (.fs [3] (.rs [4,6] (.fs [8] (.rs [9] (.fs [10] .done)))))))=true)(c:RC B w0 n L E F w)
  (h:∀wk,Kept B w0 n L wk->E wk->F wk->wpQuiet P A (fun _=>True) (fun a0=>wpQuiet P A (fun w' =>∃s:KX B w0 n L E,w' =s.val) (fun a1=>wpQuiet P A (fun _=>True) (fun a2=>wpQuiet P A (fun w' =>∃s:KX B w0 n L E,w' =s.val) (fun a3=>wpQuiet P A (fun _=>True) (fun a4=>wpQuiet P A (fun w' =>∃s:KX B w0 n L E,w' =s.val) (fun a5=>wpQuiet P A (fun _=>True) (fun a6=>Q .normal a6 wk) [o10] a5) [o9] a4) [o8] a3) [o4,o6] a2) [o3] a1) [o1] a0) [o0,o2,o5,o7] a):(Code.region id A true).wp P Q a w:=by
 subst hA;exact wp_reg _ _ _ hm hB c (fun wk k e f=>have g:=h wk k e f;Scr.of_fs _ _ rfl g fun _ g=>Scr.of_rs _ _ rfl g fun _ g=>Scr.of_fs _ _ rfl g fun _ g=>Scr.of_rs _ _ rfl g fun _ g=>Scr.of_fs _ _ rfl g fun _ g=>Scr.of_rs _ _ rfl g fun _ g=>Scr.of_fs _ _ rfl g fun _ g=>g)
theorem rg13_16{P:Program}{B n:Nat}{w0:World}{L:List (Nat×Nat×Value)}{E F:World->Prop}{id:Nat}{Q:Exit->Act->World->Prop}{a:Act}{w:World}{A:Array Oper}{o0 o1 o2 o3 o4 o5 o6 o7 o8 o9 o10 o11:Oper}(hm:P.follows .mixedOrders=true)(hA:A=[o0,o1,o2,o3,o4,o5,o6,o7,o8,o9,o10,o11].toArray)(hB:regOk A [3,7] [0,1,2,4,5,6] (.fs [0,1,2,4,5,6] (.rs [3,7] (.alt 8 (.alt 9 (.alt 10 (.altc 11 .done .stop) .stop) .stop) (.alt 9 (.alt 8 (.alt 10 (.altc 11 .done .stop) .stop) .stop) .stop))))=true)(c:RC B w0 n L E F w)
  (h:∀wk,Kept B w0 n L wk->E wk->F wk->wpQuiet P A (fun _=>True) (fun a0=>wpQuiet P A (fun w' =>∃s:KX B w0 n L E,w' =s.val) (fun a1=>((∀K2:Act->World->Prop,(∀a2 w2,((∀K3:Act->World->Prop,(∀a3 w3,((∀K4:Act->World->Prop,(∀a4 w4,((∀K5:Act->World->Prop,(∀a5 w5,Q .normal a5 w5->K5 a5 w5)->wpList P A (fun e a5 w5=>e= .normal/\K5 a5 w5) [o11] a4 w4)/\True)->K4 a4 w4)->wpList P A (fun e a4 w4=>e= .normal/\(∃s:KX B w0 n L E,w4=s.val)/\K4 a4 w4) [o10] a3 w3)/\True)->K3 a3 w3)->wpList P A (fun e a3 w3=>e= .normal/\(∃s:KX B w0 n L E,w3=s.val)/\K3 a3 w3) [o9] a2 w2)/\True)->K2 a2 w2)->wpList P A (fun e a2 w2=>e= .normal/\(∃s:KX B w0 n L E,w2=s.val)/\K2 a2 w2) [o8] a1 wk)/\(∀K2:Act->World->Prop,(∀a2 w2,((∀K3:Act->World->Prop,(∀a3 w3,((∀K4:Act->World->Prop,(∀a4 w4,((∀K5:Act->World->Prop,(∀a5 w5,Q .normal a5 w5->K5 a5 w5)->wpList P A (fun e a5 w5=>e= .normal/\K5 a5 w5) [o11] a4 w4)/\True)->K4 a4 w4)->wpList P A (fun e a4 w4=>e= .normal/\(∃s:KX B w0 n L E,w4=s.val)/\K4 a4 w4) [o10] a3 w3)/\True)->K3 a3 w3)->wpList P A (fun e a3 w3=>e= .normal/\(∃s:KX B w0 n L E,w3=s.val)/\K3 a3 w3) [o8] a2 w2)/\True)->K2 a2 w2)->wpList P A (fun e a2 w2=>e= .normal/\(∃s:KX B w0 n L E,w2=s.val)/\K2 a2 w2) [o9] a1 wk)/\True)) [o3,o7] a0) [o0,o1,o2,o4,o5,o6] a):(Code.region id A true).wp P Q a w:=by
 subst hA;exact wp_reg _ _ _ hm hB c (fun wk k e f=>have g:=h wk k e f;Scr.of_fs _ _ rfl g fun _ g=>Scr.of_rs _ _ rfl g fun _ g=>(Scr.of_alt rfl (g.1 _ fun _ _ g=>g) (fun _ _ g=>(Scr.of_alt rfl (g.1 _ fun _ _ g=>g) (fun _ _ g=>(Scr.of_alt rfl (g.1 _ fun _ _ g=>g) (fun _ _ g=>(Scr.of_altc rfl (g.1 _ fun _ _ g=>g) (fun _ _ g=>g) trivial)) trivial)) trivial)) (Scr.of_alt rfl (g.2.1 _ fun _ _ g=>g) (fun _ _ g=>(Scr.of_alt rfl (g.1 _ fun _ _ g=>g) (fun _ _ g=>(Scr.of_alt rfl (g.1 _ fun _ _ g=>g) (fun _ _ g=>(Scr.of_altc rfl (g.1 _ fun _ _ g=>g) (fun _ _ g=>g) trivial)) trivial)) trivial)) trivial)))
theorem rg13_19{P:Program}{B n:Nat}{w0:World}{L:List (Nat×Nat×Value)}{E F:World->Prop}{id:Nat}{Q:Exit->Act->World->Prop}{a:Act}{w:World}{A:Array Oper}{o0 o1 o2 o3 o4 o5 o6 o7:Oper}(hm:P.follows .mixedOrders=true)(hA:A=[o0,o1,o2,o3,o4,o5,o6,o7].toArray)(hB:regOk A [0,2] [] (.rs [0,2] (.alt 1 (.altc 3 (.alt 4 (.alt 5 (.altc 6 (.altc 7 .done .stop) .stop) .stop) (.alt 5 (.alt 4 (.altc 6 (.altc 7 .done .stop) .stop) .stop) .stop)) (.alt 4 (.altc 3 (.alt 5 (.altc 6 (.altc 7 .done .stop) .stop) .stop) (.alt 5 (.altc 3 (.altc 6 (.altc 7 .done .stop) .stop) .stop) .stop)) (.alt 5 (.altc 3 (.alt 4 (.altc 6 (.altc 7 .done .stop) .stop) .stop) (.alt 4 (.altc 3 (.altc 6 (.altc 7 .done .stop) .stop) .stop) .stop)) .stop))) (.alt 4 (.alt 1 (.altc 3 (.alt 5 (.altc 6 (.altc 7 .done .stop) .stop) .stop) (.alt 5 (.altc 3 (.altc 6 (.altc 7 .done .stop) .stop) .stop) .stop)) (.alt 5 (.alt 1 (.altc 3 (.altc 6 (.altc 7 .done .stop) .stop) .stop) .stop) .stop)) (.alt 5 (.alt 1 (.altc 3 (.alt 4 (.altc 6 (.altc 7 .done .stop) .stop) .stop) (.alt 4 (.altc 3 (.altc 6 (.altc 7 .done .stop) .stop) .stop) .stop)) (.alt 4 (.alt 1 (.altc 3 (.altc 6 (.altc 7 .done .stop) .stop) .stop) .stop) .stop)) .stop))))=true)(c:RC B w0 n L E F w)
  (h:∀wk,Kept B w0 n L wk->E wk->F wk->wpQuiet P A (fun w' =>∃s:KX B w0 n L E,w' =s.val) (fun a0=>((∀K1:Act->World->Prop,(∀a1 w1,((∀K2:Act->World->Prop,(∀a2 w2,((∀K3:Act->World->Prop,(∀a3 w3,((∀K4:Act->World->Prop,(∀a4 w4,((∀K5:Act->World->Prop,(∀a5 w5,((∀K6:Act->World->Prop,(∀a6 w6,Q .normal a6 w6->K6 a6 w6)->wpList P A (fun e a6 w6=>e= .normal/\K6 a6 w6) [o7] a5 w5)/\True)->K5 a5 w5)->wpList P A (fun e a5 w5=>e= .normal/\K5 a5 w5) [o6] a4 w4)/\True)->K4 a4 w4)->wpList P A (fun e a4 w4=>e= .normal/\(∃s:KX B w0 n L E,w4=s.val)/\K4 a4 w4) [o5] a3 w3)/\True)->K3 a3 w3)->wpList P A (fun e a3 w3=>e= .normal/\(∃s:KX B w0 n L E,w3=s.val)/\K3 a3 w3) [o4] a2 w2)/\(∀K3:Act->World->Prop,(∀a3 w3,((∀K4:Act->World->Prop,(∀a4 w4,((∀K5:Act->World->Prop,(∀a5 w5,((∀K6:Act->World->Prop,(∀a6 w6,Q .normal a6 w6->K6 a6 w6)->wpList P A (fun e a6 w6=>e= .normal/\K6 a6 w6) [o7] a5 w5)/\True)->K5 a5 w5)->wpList P A (fun e a5 w5=>e= .normal/\K5 a5 w5) [o6] a4 w4)/\True)->K4 a4 w4)->wpList P A (fun e a4 w4=>e= .normal/\(∃s:KX B w0 n L E,w4=s.val)/\K4 a4 w4) [o4] a3 w3)/\True)->K3 a3 w3)->wpList P A (fun e a3 w3=>e= .normal/\(∃s:KX B w0 n L E,w3=s.val)/\K3 a3 w3) [o5] a2 w2)/\True)->K2 a2 w2)->wpList P A (fun e a2 w2=>e= .normal/\K2 a2 w2) [o3] a1 w1)/\(∀K2:Act->World->Prop,(∀a2 w2,((∀K3:Act->World->Prop,(∀a3 w3,((∀K4:Act->World->Prop,(∀a4 w4,((∀K5:Act->World->Prop,(∀a5 w5,((∀K6:Act->World->Prop,(∀a6 w6,Q .normal a6 w6->K6 a6 w6)->wpList P A (fun e a6 w6=>e= .normal/\K6 a6 w6) [o7] a5 w5)/\True)->K5 a5 w5)->wpList P A (fun e a5 w5=>e= .normal/\K5 a5 w5) [o6] a4 w4)/\True)->K4 a4 w4)->wpList P A (fun e a4 w4=>e= .normal/\(∃s:KX B w0 n L E,w4=s.val)/\K4 a4 w4) [o5] a3 w3)/\True)->K3 a3 w3)->wpList P A (fun e a3 w3=>e= .normal/\K3 a3 w3) [o3] a2 w2)/\(∀K3:Act->World->Prop,(∀a3 w3,((∀K4:Act->World->Prop,(∀a4 w4,((∀K5:Act->World->Prop,(∀a5 w5,((∀K6:Act->World->Prop,(∀a6 w6,Q .normal a6 w6->K6 a6 w6)->wpList P A (fun e a6 w6=>e= .normal/\K6 a6 w6) [o7] a5 w5)/\True)->K5 a5 w5)->wpList P A (fun e a5 w5=>e= .normal/\K5 a5 w5) [o6] a4 w4)/\True)->K4 a4 w4)->wpList P A (fun e a4 w4=>e= .normal/\K4 a4 w4) [o3] a3 w3)/\True)->K3 a3 w3)->wpList P A (fun e a3 w3=>e= .normal/\(∃s:KX B w0 n L E,w3=s.val)/\K3 a3 w3) [o5] a2 w2)/\True)->K2 a2 w2)->wpList P A (fun e a2 w2=>e= .normal/\(∃s:KX B w0 n L E,w2=s.val)/\K2 a2 w2) [o4] a1 w1)/\(∀K2:Act->World->Prop,(∀a2 w2,((∀K3:Act->World->Prop,(∀a3 w3,((∀K4:Act->World->Prop,(∀a4 w4,((∀K5:Act->World->Prop,(∀a5 w5,((∀K6:Act->World->Prop,(∀a6 w6,Q .normal a6 w6->K6 a6 w6)->wpList P A (fun e a6 w6=>e= .normal/\K6 a6 w6) [o7] a5 w5)/\True)->K5 a5 w5)->wpList P A (fun e a5 w5=>e= .normal/\K5 a5 w5) [o6] a4 w4)/\True)->K4 a4 w4)->wpList P A (fun e a4 w4=>e= .normal/\(∃s:KX B w0 n L E,w4=s.val)/\K4 a4 w4) [o4] a3 w3)/\True)->K3 a3 w3)->wpList P A (fun e a3 w3=>e= .normal/\K3 a3 w3) [o3] a2 w2)/\(∀K3:Act->World->Prop,(∀a3 w3,((∀K4:Act->World->Prop,(∀a4 w4,((∀K5:Act->World->Prop,(∀a5 w5,((∀K6:Act->World->Prop,(∀a6 w6,Q .normal a6 w6->K6 a6 w6)->wpList P A (fun e a6 w6=>e= .normal/\K6 a6 w6) [o7] a5 w5)/\True)->K5 a5 w5)->wpList P A (fun e a5 w5=>e= .normal/\K5 a5 w5) [o6] a4 w4)/\True)->K4 a4 w4)->wpList P A (fun e a4 w4=>e= .normal/\K4 a4 w4) [o3] a3 w3)/\True)->K3 a3 w3)->wpList P A (fun e a3 w3=>e= .normal/\(∃s:KX B w0 n L E,w3=s.val)/\K3 a3 w3) [o4] a2 w2)/\True)->K2 a2 w2)->wpList P A (fun e a2 w2=>e= .normal/\(∃s:KX B w0 n L E,w2=s.val)/\K2 a2 w2) [o5] a1 w1)/\True)->K1 a1 w1)->wpList P A (fun e a1 w1=>e= .normal/\(∃s:KX B w0 n L E,w1=s.val)/\K1 a1 w1) [o1] a0 wk)/\(∀K1:Act->World->Prop,(∀a1 w1,((∀K2:Act->World->Prop,(∀a2 w2,((∀K3:Act->World->Prop,(∀a3 w3,((∀K4:Act->World->Prop,(∀a4 w4,((∀K5:Act->World->Prop,(∀a5 w5,((∀K6:Act->World->Prop,(∀a6 w6,Q .normal a6 w6->K6 a6 w6)->wpList P A (fun e a6 w6=>e= .normal/\K6 a6 w6) [o7] a5 w5)/\True)->K5 a5 w5)->wpList P A (fun e a5 w5=>e= .normal/\K5 a5 w5) [o6] a4 w4)/\True)->K4 a4 w4)->wpList P A (fun e a4 w4=>e= .normal/\(∃s:KX B w0 n L E,w4=s.val)/\K4 a4 w4) [o5] a3 w3)/\True)->K3 a3 w3)->wpList P A (fun e a3 w3=>e= .normal/\K3 a3 w3) [o3] a2 w2)/\(∀K3:Act->World->Prop,(∀a3 w3,((∀K4:Act->World->Prop,(∀a4 w4,((∀K5:Act->World->Prop,(∀a5 w5,((∀K6:Act->World->Prop,(∀a6 w6,Q .normal a6 w6->K6 a6 w6)->wpList P A (fun e a6 w6=>e= .normal/\K6 a6 w6) [o7] a5 w5)/\True)->K5 a5 w5)->wpList P A (fun e a5 w5=>e= .normal/\K5 a5 w5) [o6] a4 w4)/\True)->K4 a4 w4)->wpList P A (fun e a4 w4=>e= .normal/\K4 a4 w4) [o3] a3 w3)/\True)->K3 a3 w3)->wpList P A (fun e a3 w3=>e= .normal/\(∃s:KX B w0 n L E,w3=s.val)/\K3 a3 w3) [o5] a2 w2)/\True)->K2 a2 w2)->wpList P A (fun e a2 w2=>e= .normal/\(∃s:KX B w0 n L E,w2=s.val)/\K2 a2 w2) [o1] a1 w1)/\(∀K2:Act->World->Prop,(∀a2 w2,((∀K3:Act->World->Prop,(∀a3 w3,((∀K4:Act->World->Prop,(∀a4 w4,((∀K5:Act->World->Prop,(∀a5 w5,((∀K6:Act->World->Prop,(∀a6 w6,Q .normal a6 w6->K6 a6 w6)->wpList P A (fun e a6 w6=>e= .normal/\K6 a6 w6) [o7] a5 w5)/\True)->K5 a5 w5)->wpList P A (fun e a5 w5=>e= .normal/\K5 a5 w5) [o6] a4 w4)/\True)->K4 a4 w4)->wpList P A (fun e a4 w4=>e= .normal/\K4 a4 w4) [o3] a3 w3)/\True)->K3 a3 w3)->wpList P A (fun e a3 w3=>e= .normal/\(∃s:KX B w0 n L E,w3=s.val)/\K3 a3 w3) [o1] a2 w2)/\True)->K2 a2 w2)->wpList P A (fun e a2 w2=>e= .normal/\(∃s:KX B w0 n L E,w2=s.val)/\K2 a2 w2) [o5] a1 w1)/\True)->K1 a1 w1)->wpList P A (fun e a1 w1=>e= .normal/\(∃s:KX B w0 n L E,w1=s.val)/\K1 a1 w1) [o4] a0 wk)/\(∀K1:Act->World->Prop,(∀a1 w1,((∀K2:Act->World->Prop,(∀a2 w2,((∀K3:Act->World->Prop,(∀a3 w3,((∀K4:Act->World->Prop,(∀a4 w4,((∀K5:Act->World->Prop,(∀a5 w5,((∀K6:Act->World->Prop,(∀a6 w6,Q .normal a6 w6->K6 a6 w6)->wpList P A (fun e a6 w6=>e= .normal/\K6 a6 w6) [o7] a5 w5)/\True)->K5 a5 w5)->wpList P A (fun e a5 w5=>e= .normal/\K5 a5 w5) [o6] a4 w4)/\True)->K4 a4 w4)->wpList P A (fun e a4 w4=>e= .normal/\(∃s:KX B w0 n L E,w4=s.val)/\K4 a4 w4) [o4] a3 w3)/\True)->K3 a3 w3)->wpList P A (fun e a3 w3=>e= .normal/\K3 a3 w3) [o3] a2 w2)/\(∀K3:Act->World->Prop,(∀a3 w3,((∀K4:Act->World->Prop,(∀a4 w4,((∀K5:Act->World->Prop,(∀a5 w5,((∀K6:Act->World->Prop,(∀a6 w6,Q .normal a6 w6->K6 a6 w6)->wpList P A (fun e a6 w6=>e= .normal/\K6 a6 w6) [o7] a5 w5)/\True)->K5 a5 w5)->wpList P A (fun e a5 w5=>e= .normal/\K5 a5 w5) [o6] a4 w4)/\True)->K4 a4 w4)->wpList P A (fun e a4 w4=>e= .normal/\K4 a4 w4) [o3] a3 w3)/\True)->K3 a3 w3)->wpList P A (fun e a3 w3=>e= .normal/\(∃s:KX B w0 n L E,w3=s.val)/\K3 a3 w3) [o4] a2 w2)/\True)->K2 a2 w2)->wpList P A (fun e a2 w2=>e= .normal/\(∃s:KX B w0 n L E,w2=s.val)/\K2 a2 w2) [o1] a1 w1)/\(∀K2:Act->World->Prop,(∀a2 w2,((∀K3:Act->World->Prop,(∀a3 w3,((∀K4:Act->World->Prop,(∀a4 w4,((∀K5:Act->World->Prop,(∀a5 w5,((∀K6:Act->World->Prop,(∀a6 w6,Q .normal a6 w6->K6 a6 w6)->wpList P A (fun e a6 w6=>e= .normal/\K6 a6 w6) [o7] a5 w5)/\True)->K5 a5 w5)->wpList P A (fun e a5 w5=>e= .normal/\K5 a5 w5) [o6] a4 w4)/\True)->K4 a4 w4)->wpList P A (fun e a4 w4=>e= .normal/\K4 a4 w4) [o3] a3 w3)/\True)->K3 a3 w3)->wpList P A (fun e a3 w3=>e= .normal/\(∃s:KX B w0 n L E,w3=s.val)/\K3 a3 w3) [o1] a2 w2)/\True)->K2 a2 w2)->wpList P A (fun e a2 w2=>e= .normal/\(∃s:KX B w0 n L E,w2=s.val)/\K2 a2 w2) [o4] a1 w1)/\True)->K1 a1 w1)->wpList P A (fun e a1 w1=>e= .normal/\(∃s:KX B w0 n L E,w1=s.val)/\K1 a1 w1) [o5] a0 wk)/\True)) [o0,o2] a):(Code.region id A true).wp P Q a w:=by
 subst hA;exact wp_reg _ _ _ hm hB c (fun wk k e f=>have g:=h wk k e f;Scr.of_rs _ _ rfl g fun _ g=>(Scr.of_alt rfl (g.1 _ fun _ _ g=>g) (fun _ _ g=>(Scr.of_altc rfl (g.1 _ fun _ _ g=>g) (fun _ _ g=>(Scr.of_alt rfl (g.1 _ fun _ _ g=>g) (fun _ _ g=>(Scr.of_alt rfl (g.1 _ fun _ _ g=>g) (fun _ _ g=>(Scr.of_altc rfl (g.1 _ fun _ _ g=>g) (fun _ _ g=>(Scr.of_altc rfl (g.1 _ fun _ _ g=>g) (fun _ _ g=>g) trivial)) trivial)) trivial)) (Scr.of_alt rfl (g.2.1 _ fun _ _ g=>g) (fun _ _ g=>(Scr.of_alt rfl (g.1 _ fun _ _ g=>g) (fun _ _ g=>(Scr.of_altc rfl (g.1 _ fun _ _ g=>g) (fun _ _ g=>(Scr.of_altc rfl (g.1 _ fun _ _ g=>g) (fun _ _ g=>g) trivial)) trivial)) trivial)) trivial))) (Scr.of_alt rfl (g.2.1 _ fun _ _ g=>g) (fun _ _ g=>(Scr.of_altc rfl (g.1 _ fun _ _ g=>g) (fun _ _ g=>(Scr.of_alt rfl (g.1 _ fun _ _ g=>g) (fun _ _ g=>(Scr.of_altc rfl (g.1 _ fun _ _ g=>g) (fun _ _ g=>(Scr.of_altc rfl (g.1 _ fun _ _ g=>g) (fun _ _ g=>g) trivial)) trivial)) trivial)) (Scr.of_alt rfl (g.2.1 _ fun _ _ g=>g) (fun _ _ g=>(Scr.of_altc rfl (g.1 _ fun _ _ g=>g) (fun _ _ g=>(Scr.of_altc rfl (g.1 _ fun _ _ g=>g) (fun _ _ g=>(Scr.of_altc rfl (g.1 _ fun _ _ g=>g) (fun _ _ g=>g) trivial)) trivial)) trivial)) trivial))) (Scr.of_alt rfl (g.2.2.1 _ fun _ _ g=>g) (fun _ _ g=>(Scr.of_altc rfl (g.1 _ fun _ _ g=>g) (fun _ _ g=>(Scr.of_alt rfl (g.1 _ fun _ _ g=>g) (fun _ _ g=>(Scr.of_altc rfl (g.1 _ fun _ _ g=>g) (fun _ _ g=>(Scr.of_altc rfl (g.1 _ fun _ _ g=>g) (fun _ _ g=>g) trivial)) trivial)) trivial)) (Scr.of_alt rfl (g.2.1 _ fun _ _ g=>g) (fun _ _ g=>(Scr.of_altc rfl (g.1 _ fun _ _ g=>g) (fun _ _ g=>(Scr.of_altc rfl (g.1 _ fun _ _ g=>g) (fun _ _ g=>(Scr.of_altc rfl (g.1 _ fun _ _ g=>g) (fun _ _ g=>g) trivial)) trivial)) trivial)) trivial))) trivial)))) (Scr.of_alt rfl (g.2.1 _ fun _ _ g=>g) (fun _ _ g=>(Scr.of_alt rfl (g.1 _ fun _ _ g=>g) (fun _ _ g=>(Scr.of_altc rfl (g.1 _ fun _ _ g=>g) (fun _ _ g=>(Scr.of_alt rfl (g.1 _ fun _ _ g=>g) (fun _ _ g=>(Scr.of_altc rfl (g.1 _ fun _ _ g=>g) (fun _ _ g=>(Scr.of_altc rfl (g.1 _ fun _ _ g=>g) (fun _ _ g=>g) trivial)) trivial)) trivial)) (Scr.of_alt rfl (g.2.1 _ fun _ _ g=>g) (fun _ _ g=>(Scr.of_altc rfl (g.1 _ fun _ _ g=>g) (fun _ _ g=>(Scr.of_altc rfl (g.1 _ fun _ _ g=>g) (fun _ _ g=>(Scr.of_altc rfl (g.1 _ fun _ _ g=>g) (fun _ _ g=>g) trivial)) trivial)) trivial)) trivial))) (Scr.of_alt rfl (g.2.1 _ fun _ _ g=>g) (fun _ _ g=>(Scr.of_alt rfl (g.1 _ fun _ _ g=>g) (fun _ _ g=>(Scr.of_altc rfl (g.1 _ fun _ _ g=>g) (fun _ _ g=>(Scr.of_altc rfl (g.1 _ fun _ _ g=>g) (fun _ _ g=>(Scr.of_altc rfl (g.1 _ fun _ _ g=>g) (fun _ _ g=>g) trivial)) trivial)) trivial)) trivial)) trivial))) (Scr.of_alt rfl (g.2.2.1 _ fun _ _ g=>g) (fun _ _ g=>(Scr.of_alt rfl (g.1 _ fun _ _ g=>g) (fun _ _ g=>(Scr.of_altc rfl (g.1 _ fun _ _ g=>g) (fun _ _ g=>(Scr.of_alt rfl (g.1 _ fun _ _ g=>g) (fun _ _ g=>(Scr.of_altc rfl (g.1 _ fun _ _ g=>g) (fun _ _ g=>(Scr.of_altc rfl (g.1 _ fun _ _ g=>g) (fun _ _ g=>g) trivial)) trivial)) trivial)) (Scr.of_alt rfl (g.2.1 _ fun _ _ g=>g) (fun _ _ g=>(Scr.of_altc rfl (g.1 _ fun _ _ g=>g) (fun _ _ g=>(Scr.of_altc rfl (g.1 _ fun _ _ g=>g) (fun _ _ g=>(Scr.of_altc rfl (g.1 _ fun _ _ g=>g) (fun _ _ g=>g) trivial)) trivial)) trivial)) trivial))) (Scr.of_alt rfl (g.2.1 _ fun _ _ g=>g) (fun _ _ g=>(Scr.of_alt rfl (g.1 _ fun _ _ g=>g) (fun _ _ g=>(Scr.of_altc rfl (g.1 _ fun _ _ g=>g) (fun _ _ g=>(Scr.of_altc rfl (g.1 _ fun _ _ g=>g) (fun _ _ g=>(Scr.of_altc rfl (g.1 _ fun _ _ g=>g) (fun _ _ g=>g) trivial)) trivial)) trivial)) trivial)) trivial))) trivial))))
theorem rg13_23{P:Program}{B n:Nat}{w0:World}{L:List (Nat×Nat×Value)}{E F:World->Prop}{id:Nat}{Q:Exit->Act->World->Prop}{a:Act}{w:World}{A:Array Oper}{o0 o1 o2 o3 o4 o5 o6 o7:Oper}(hm:P.follows .mixedOrders=true)(hA:A=[o0,o1,o2,o3,o4,o5,o6,o7].toArray)(hB:regOk A [2,5] [0,1,3,4,7] (.fs [0,1,3,4] (.rs [2,5] (.altc 6 (.fs [7] .done) .stop)))=true)(c:RC B w0 n L E F w)
  (h:∀wk,Kept B w0 n L wk->E wk->F wk->wpQuiet P A (fun _=>True) (fun a0=>wpQuiet P A (fun w' =>∃s:KX B w0 n L E,w' =s.val) (fun a1=>((∀K2:Act->World->Prop,(∀a2 w2,wpQuiet P A (fun _=>True) (fun a3=>Q .normal a3 w2) [o7] a2->K2 a2 w2)->wpList P A (fun e a2 w2=>e= .normal/\K2 a2 w2) [o6] a1 wk)/\True)) [o2,o5] a0) [o0,o1,o3,o4] a):(Code.region id A true).wp P Q a w:=by
 subst hA;exact wp_reg _ _ _ hm hB c (fun wk k e f=>have g:=h wk k e f;Scr.of_fs _ _ rfl g fun _ g=>Scr.of_rs _ _ rfl g fun _ g=>(Scr.of_altc rfl (g.1 _ fun _ _ g=>g) (fun _ _ g=>Scr.of_fs _ _ rfl g fun _ g=>g) trivial))
theorem al_b{W V:World}{Z:Array Value}{T:TypeId}(h:V=W.alloc (.cells Z T)):Below W.heap.size W V:=by rw[h];exact(Below.refl _ _).alloc (Nat.le_refl _) _
theorem al_r{W V:World}{Z:Array Value}{T:TypeId}{n:Nat}(h:V=W.alloc (.cells Z T))(hn:n=W.heap.size):Ro V n Z T:=by rw[hn,h];exact Ro.new _ _ _
theorem al_g{W B:World}{n:Nat}(h:Hid (Below B.heap.size B W))(hn:n=W.heap.size):B.heap.size<=n:=by rw[hn];exact h.out.size
theorem al_n{W:World}{n b:Nat}{Z:Array Value}{T:TypeId}(h:Ro W b Z T)(hn:n=W.heap.size):b≠n:=by rw[hn];exact Nat.ne_of_lt h.lt
theorem st_o{W V:World}{b:Nat}{C:Array Value}(h:Hid (V=W.setRow b C)):Onl [b] W V:=by rw[h.out];exact Onl.setRow (Onl.refl _ _) (.inl (by simp)) _
theorem st_r{W V:World}{b:Nat}{C O:Array Value}{T:TypeId}(h0:Ro W b O T)(h:Hid (V=W.setRow b C)):Ro V b C T:=by rw[h.out];exact setRow_heap _ _ _ _ _ _ h0
theorem st_n{W V:World}{b c:Nat}{C:Array Value}{T:TypeId}(h:Ro W c C T)(ho:Onl [b] W V)(hn:c≠b):Ro V c C T:=h.onl ho (by simpa using hn)
theorem st_w{B W V:World}{b:Nat}(h:Below B.heap.size B W)(ho:Onl [b] W V)(hg:B.heap.size<=b):Below B.heap.size B V:=belowOnl h ho (by simpa using hg) h.size
theorem wpList_store_rx{ops:Array Oper}{rest:List Oper}{op:Oper}{a:Act}{w:World}{Q:Exit->Act->World->Prop}(T:TypeId)(hgd:op.guard=none){P:Nat}{C:Array Value}(x y:Operand)(ho:op.op= .store T x y)(hx:a.eval x= .pointer (some ⟨P,0,none⟩))(hy:a.eval y= .agg C){old:Array Value}(hg:Ro w P old T)(hi:(Tryz.prog.info? T).map (·.size)=some C.size)(hsz:old.size=C.size)(h1:C.all (·.oneCell')=true)
  (hK:∀w',Hid (w' =w.setRow P C)->wpList Tryz.prog ops Q rest (a.put op.dst undef) w'):wpList Tryz.prog ops Q (op::rest) a w:=
 wpList_store_ro T hgd x y ho hx hy hg hi hsz h1 (hK _ (Hd rfl))
def RsL(w:World)(s1 s2:Bs)(B:Bd)(n:Nat)(i:Value)(wr:World):Prop:=∃k:Nat,k<=n/\i= .int .i64 k/\Below w.heap.size w wr/\Bx wr w.heap.size s1 B/\Bx wr (w.heap.size+1) s2 B
def RsZ(w:World)(s1 s2:Bs)(B:Bd)(bU bV:Nat)(C1 C2:Array Value)(i:Value)(wr:World):Prop:=∃k:Nat,k<=4/\i= .int .i64 k/\Below w.heap.size w wr/\Bx wr w.heap.size s1 B/\Bx wr (w.heap.size+1) s2 B/\Ro wr bU C1 68/\Ro wr bV C2 68
set_option maxRecDepth 100000 in
set_option maxHeartbeats 8000000 in
theorem rsame(s1 s2:Bs)(B:Bd)(w:World)(h1:BdR w s1 B)(h2:BdR w s2 B):Calls Tryz.prog 13 #[bv s1 B,bv s2 B] w fun e w' =>e= .returned (.bool true)/\Below w.heap.size w w':=by
 obtain⟨_,ob1,ob1c,hv1ob,hf1ob⟩:=h1.ob.form
 obtain⟨_,ob2,ob2c,hv2ob,hf2ob⟩:=h2.ob.form
 obtain⟨_,at1,at1c,hv1at,hf1at⟩:=h1.att.form
 obtain⟨_,at2,at2c,hv2at,hf2at⟩:=h2.att.form
 obtain⟨_,bl1,bl1c,hv1bl,hf1bl⟩:=h1.bl.form
 obtain⟨_,bl2,bl2c,hv2bl,hf2bl⟩:=h2.bl.form
 obtain⟨ls1,hls1,hrs1,_⟩:=h1.st
 obtain⟨lq1,hlq1,hrq1,_⟩:=h1.qu
 obtain⟨_,st1,st1c,hv1st,_⟩:=hrs1.form
 obtain⟨_,qu1,qu1c,hv1qu,_⟩:=hrq1.form
 have es1:ls1.length=B.st.length:=by rw[<-hls1,List.length_map]
 have eq1:lq1.length=B.qu.length:=by rw[<-hlq1,List.length_map]
 rw[es1] at hv1st
 rw[eq1] at hv1qu
 obtain⟨ls2,hls2,hrs2,_⟩:=h2.st
 obtain⟨lq2,hlq2,hrq2,_⟩:=h2.qu
 obtain⟨_,st2,st2c,hv2st,_⟩:=hrs2.form
 obtain⟨_,qu2,qu2c,hv2qu,_⟩:=hrq2.form
 have es2:ls2.length=B.st.length:=by rw[<-hls2,List.length_map]
 have eq2:lq2.length=B.qu.length:=by rw[<-hlq2,List.length_map]
 rw[es2] at hv2st
 rw[eq2] at hv2qu
 have HC1_0:Hid (∀W,Bx W (w.heap.size) s1 B->W.cell? ⟨w.heap.size,0,none⟩=some (.slice ob1 B.ob.length ob1c)):=Hd (fun W h=>by rw[h.cell 0,<-hv1ob];rfl);have HC2_0:Hid (∀W,Bx W (w.heap.size+1) s2 B->W.cell? ⟨w.heap.size+1,0,none⟩=some (.slice ob2 B.ob.length ob2c)):=Hd (fun W h=>by rw[h.cell 0,<-hv2ob];rfl);have HC1_29:Hid (∀W,Bx W (w.heap.size) s1 B->W.cell? ⟨w.heap.size,29,none⟩=some (.slice st1 B.st.length st1c)):=Hd (fun W h=>by rw[h.cell 29,<-hv1st];rfl);have HC2_29:Hid (∀W,Bx W (w.heap.size+1) s2 B->W.cell? ⟨w.heap.size+1,29,none⟩=some (.slice st2 B.st.length st2c)):=Hd (fun W h=>by rw[h.cell 29,<-hv2st];rfl);have HC1_30:Hid (∀W,Bx W (w.heap.size) s1 B->W.cell? ⟨w.heap.size,30,none⟩=some (.slice qu1 B.qu.length qu1c)):=Hd (fun W h=>by rw[h.cell 30,<-hv1qu];rfl);have HC2_30:Hid (∀W,Bx W (w.heap.size+1) s2 B->W.cell? ⟨w.heap.size+1,30,none⟩=some (.slice qu2 B.qu.length qu2c)):=Hd (fun W h=>by rw[h.cell 30,<-hv2qu];rfl);have HC1_31:Hid (∀W,Bx W (w.heap.size) s1 B->W.cell? ⟨w.heap.size,31,none⟩=some (.slice at1 B.att.length at1c)):=Hd (fun W h=>by rw[h.cell 31,<-hv1at];rfl);have HC2_31:Hid (∀W,Bx W (w.heap.size+1) s2 B->W.cell? ⟨w.heap.size+1,31,none⟩=some (.slice at2 B.att.length at2c)):=Hd (fun W h=>by rw[h.cell 31,<-hv2at];rfl);have HC1_32:Hid (∀W,Bx W (w.heap.size) s1 B->W.cell? ⟨w.heap.size,32,none⟩=some (.slice bl1 B.bl.length bl1c)):=Hd (fun W h=>by rw[h.cell 32,<-hv1bl];rfl);have HC2_32:Hid (∀W,Bx W (w.heap.size+1) s2 B->W.cell? ⟨w.heap.size+1,32,none⟩=some (.slice bl2 B.bl.length bl2c)):=Hd (fun W h=>by rw[h.cell 32,<-hv2bl];rfl);have HI1:Hid (ItR w (.slice st1 B.st.length st1c) B.st/\ItR w (.slice qu1 B.qu.length qu1c) B.qu/\Rw ic 1 w (.slice at1 B.att.length at1c) B.att):=Hd ⟨by rw[<-hv1st];exact h1.st,by rw[<-hv1qu];exact h1.qu,by rw[<-hv1at];exact h1.att⟩;have HFo1:=Hd hf1ob;have HFb1:=Hd hf1bl;have HZ1:Hid (∀p z,Rw ic 1 w (s1.zl p z).v ((B.seat p).zs z)):=Hd h1.zone;have HI2:Hid (ItR w (.slice st2 B.st.length st2c) B.st/\ItR w (.slice qu2 B.qu.length qu2c) B.qu/\Rw ic 1 w (.slice at2 B.att.length at2c) B.att):=Hd ⟨by rw[<-hv2st];exact h2.st,by rw[<-hv2qu];exact h2.qu,by rw[<-hv2at];exact h2.att⟩;have HFo2:=Hd hf2ob;have HFb2:=Hd hf2bl;have HZ2:Hid (∀p z,Rw ic 1 w (s2.zl p z).v ((B.seat p).zs z)):=Hd h2.zone;have hob:B.ob.length<=9223372036854775807:=by have:=h1.ob.max;unfold maxLen at this;omega
 have hbl:B.bl.length<=9223372036854775807:=by have:=h1.bl.max;unfold maxLen at this;omega
 clear h1 h2 hv1ob hv1at hv1bl hv1st hv1qu hv2ob hv2at hv2bl hv2st hv2qu hf1ob hf1at hf1bl hf2ob hf2at hf2bl hls1 hlq1 hrs1 hrq1 es1 eq1 hls2 hlq2 hrs2 hrq2 es2 eq2;have ntu:(B.tu !=B.tu)=false:=by simp
 have nac:(B.ac !=B.ac)=false:=by simp
 have nph:(B.ph !=B.ph)=false:=by simp
 have nho:(B.ho !=B.ho)=false:=by simp
 have npa:(B.pa !=B.pa)=false:=by simp
 have mob:(B.ob.length !=B.ob.length)=false:=by simp
 have mob':((B.ob.length:Int) !=(B.ob.length:Int))=false:=by simp
 have mbl:(B.bl.length !=B.bl.length)=false:=by simp
 have mbl':((B.bl.length:Int) !=(B.bl.length:Int))=false:=by simp
 go_enter Tryz.func13,Tryz.ntmps13
 go_upto_region 1 with fail
 change Code.wp Tryz.prog _ _ _ ((w.alloc (.cells (bcells s1 B) 34)).alloc (.cells (bcells s2 B) 34))
 obtain⟨wz,hwz⟩:∃W,W=(w.alloc (.cells (bcells s1 B) 34)).alloc (.cells (bcells s2 B) 34):=⟨_,rfl⟩
 have b1:Below w.heap.size w (w.alloc (.cells (bcells s1 B) 34)):=(Below.refl _ _).alloc (Nat.le_refl _) _;have b2:Below (w.alloc (.cells (bcells s1 B) 34)).heap.size (w.alloc (.cells (bcells s1 B) 34)) wz:=by rw[hwz];exact(Below.refl _ _).alloc (Nat.le_refl _) _
 have HX1:Hid (Bx wz w.heap.size s1 B):=Hd (Bx.below (w:=w.alloc (.cells (bcells s1 B) 34)) (heap_alloc_new _ _) b2);have HX2:Hid (Bx wz (w.heap.size+1) s2 B):=Hd (by rw[hwz,show w.heap.size+1=(w.alloc (.cells (bcells s1 B) 34)).heap.size by simp];exact heap_alloc_new _ _);have HB:Hid (Below w.heap.size w wz):=Hd (below_via b1 b2);rw[<-hwz];clear hwz b1 b2;have c1_0:=HC1_0.o wz HX1.o;have c2_0:=HC2_0.o wz HX2.o;have c1_29:=HC1_29.o wz HX1.o;have c2_29:=HC2_29.o wz HX2.o;go_wp2_with fail
 with_reducible refine(ritems _ _ B.st _ (HI1.o.1.below HB.o) (HI2.o.1.below HB.o)).mono ?_
 rintro e w2 ⟨rfl,hb⟩;replace HX1:=Hd (HX1.o.below hb);replace HX2:=Hd (HX2.o.below hb);replace HB:=Hd (below_via HB.o hb);clear c1_0 c2_0 c1_29 c2_29;have c1_30:=HC1_30.o w2 HX1.o;have c2_30:=HC2_30.o w2 HX2.o;clear hb;go_wp2_with fail
 with_reducible refine(ritems _ _ B.qu _ (HI1.o.2.1.below HB.o) (HI2.o.2.1.below HB.o)).mono ?_
 rintro e w3 ⟨rfl,hb⟩;replace HX1:=Hd (HX1.o.below hb);replace HX2:=Hd (HX2.o.below hb);replace HB:=Hd (below_via HB.o hb);clear c1_30 c2_30;have c1_31:=HC1_31.o w3 HX1.o;have c2_31:=HC2_31.o w3 HX2.o;clear hb;go_wp2_with fail
 with_reducible refine(rints _ _ B.att _ (HI1.o.2.2.below HB.o) (HI2.o.2.2.below HB.o)).mono ?_
 rintro e w4 ⟨rfl,hb⟩;replace HX1:=Hd (HX1.o.below hb);replace HX2:=Hd (HX2.o.below hb);replace HB:=Hd (below_via HB.o hb);clear c1_31 c2_31;have c1_32:=HC1_32.o w4 HX1.o;have c2_32:=HC2_32.o w4 HX2.o;have c1_33:w4.cell? ⟨w.heap.size,33,none⟩=some (.int .i64 B.tu):=HX1.o.cell 33;have c2_33:w4.cell? ⟨w.heap.size+1,33,none⟩=some (.int .i64 B.tu):=HX2.o.cell 33;have c1_34:w4.cell? ⟨w.heap.size,34,none⟩=some (.int .i64 B.ac):=HX1.o.cell 34;have c2_34:w4.cell? ⟨w.heap.size+1,34,none⟩=some (.int .i64 B.ac):=HX2.o.cell 34;have c1_35:w4.cell? ⟨w.heap.size,35,none⟩=some (.int .i64 B.ph):=HX1.o.cell 35;have c2_35:w4.cell? ⟨w.heap.size+1,35,none⟩=some (.int .i64 B.ph):=HX2.o.cell 35;have c1_36:w4.cell? ⟨w.heap.size,36,none⟩=some (.int .i64 B.ho):=HX1.o.cell 36;have c2_36:w4.cell? ⟨w.heap.size+1,36,none⟩=some (.int .i64 B.ho):=HX2.o.cell 36;have c1_37:w4.cell? ⟨w.heap.size,37,none⟩=some (.int .i64 B.pa):=HX1.o.cell 37;have c2_37:w4.cell? ⟨w.heap.size+1,37,none⟩=some (.int .i64 B.pa):=HX2.o.cell 37;have c1_0:=HC1_0.o w4 HX1.o;have c2_0:=HC2_0.o w4 HX2.o;clear hb;go_wp2_with fail
 clear c1_32 c2_32 c1_33 c2_33 c1_34 c2_34 c1_35 c2_35 c1_36 c2_36 c1_37 c2_37 c1_0 c2_0;clear ntu nac nph nho npa mob mob' mbl mbl'
 go_loopw [5] (fun i wr=>RsL w s1 s2 B B.ob.length i wr) (fun i _=>B.ob.length-(intOf i).toNat)
 case atStart=>exact⟨0,by omega,rfl,HB.o,HX1.o,HX2.o⟩
 obtain⟨k,hk,rfl,hb,hx1,hx2⟩:=hrel
 replace HB:=Hd hb;replace HX1:=Hd hx1;replace HX2:=Hd hx2;have p1:=hx1.lt;have p2:=hx2.lt;have c1_0:=HC1_0.o wr hx1;have c2_0:=HC2_0.o wr hx2;clear hx1 hx2
 by_cases hkl:k<B.ob.length
 ·obtain⟨b1,o1,rfl,hlt1,hc1⟩:=HFo1.o (by omega)
  obtain⟨b2,o2,rfl,hlt2,hc2⟩:=HFo2.o (by omega)
  obtain⟨x,hx⟩:∃x,B.ob[k]? =some x:=⟨_,List.getElem?_eq_getElem hkl⟩
  have hd1:∀(j:Nat) (u:Value),(oc x)[j]? =some u->wr.cell? ⟨b1,o1+(k*12+j),none⟩=some u:=fun j u hu=>(hb.cell (p:=⟨b1,o1+(k*12+j),none⟩) hlt1).trans (hc1 k _ hx j u hu)
  have d1_0:wr.cell? ⟨b1,o1+k*12,none⟩=some (.int .i64 x.id):=hd1 0 _ rfl;have d1_1:=cA hd1 1 rfl;have d1_2:=cA hd1 2 rfl;have d1_3:=cA hd1 3 rfl;have d1_4:=cA hd1 4 rfl;have d1_5:=cA hd1 5 rfl;have d1_6:=cA hd1 6 rfl;have d1_7:=cA hd1 7 rfl;have d1_8:=cA hd1 8 rfl;have d1_9:=cA hd1 9 rfl;have d1_10:=cA hd1 10 rfl;have d1_11:=cA hd1 11 rfl;have hd2:∀(j:Nat) (u:Value),(oc x)[j]? =some u->wr.cell? ⟨b2,o2+(k*12+j),none⟩=some u:=fun j u hu=>(hb.cell (p:=⟨b2,o2+(k*12+j),none⟩) hlt2).trans (hc2 k _ hx j u hu)
  have d2_0:wr.cell? ⟨b2,o2+k*12,none⟩=some (.int .i64 x.id):=hd2 0 _ rfl;have d2_1:=cA hd2 1 rfl;have d2_2:=cA hd2 2 rfl;have d2_3:=cA hd2 3 rfl;have d2_4:=cA hd2 4 rfl;have d2_5:=cA hd2 5 rfl;have d2_6:=cA hd2 6 rfl;have d2_7:=cA hd2 7 rfl;have d2_8:=cA hd2 8 rfl;have d2_9:=cA hd2 9 rfl;have d2_10:=cA hd2 10 rfl;have d2_11:=cA hd2 11 rfl;have g1:b1<wr.heap.size:=Nat.lt_of_lt_of_le hlt1 hb.size;have g2:b2<wr.heap.size:=Nat.lt_of_lt_of_le hlt2 hb.size;have i1:(0:Int)<=(k:Int):=by omega
  have i2:(k:Int)<(B.ob.length:Int):=by omega
  clear hc1 hc2 hx hb hd1 hd2
  go_upto_region 6 with fail
  refine rg13_6 (w0:=wr) (B:=wr.heap.size) (n:=wr.heap.size) (L:=[]) (by kernel_rfl) rfl (by kernel_rfl) (.t ⟨by go_grown,by go_size,(by simp[go_sem]<;>omega)⟩) (fun w21 K_w21 E_w21 F_w21=> ?_);have _ne:Nonempty (KX (wr.heap.size) wr (wr.heap.size) [] (fun _=>True)):=⟨⟨_,K_w21,E_w21⟩⟩
  repeat (go_big_quiet_step (fail))
  refine wpQuiet_nil ?_;have rs1:=rck _ne c1_0 p1;have r1_0:=rck _ne d1_0 g1;have r1_1:=rck _ne d1_1 g1;have r1_2:=rck _ne d1_2 g1;have r1_3:=rck _ne d1_3 g1;have r1_4:=rck _ne d1_4 g1;have r1_5:=rck _ne d1_5 g1;have r1_6:=rck _ne d1_6 g1;have r1_7:=rck _ne d1_7 g1;have r1_8:=rck _ne d1_8 g1;have r1_9:=rck _ne d1_9 g1;have r1_10:=rck _ne d1_10 g1;have r1_11:=rck _ne d1_11 g1;have rs2:=rck _ne c2_0 p2;have r2_0:=rck _ne d2_0 g2;have r2_1:=rck _ne d2_1 g2;have r2_2:=rck _ne d2_2 g2;have r2_3:=rck _ne d2_3 g2;have r2_4:=rck _ne d2_4 g2;have r2_5:=rck _ne d2_5 g2;have r2_6:=rck _ne d2_6 g2;have r2_7:=rck _ne d2_7 g2;have r2_8:=rck _ne d2_8 g2;have r2_9:=rck _ne d2_9 g2;have r2_10:=rck _ne d2_10 g2;have r2_11:=rck _ne d2_11 g2
  repeat (go_big_quiet_step (fail))
  refine wpQuiet_nil ?_
  repeat (go_big_quiet_step (fail))
  refine wpQuiet_nil ?_
  repeat (go_big_quiet_step (fail))
  refine wpQuiet_nil ?_
  repeat (go_big_quiet_step (fail))
  refine wpQuiet_nil ?_
  repeat (go_big_quiet_step (fail))
  refine wpQuiet_nil ?_
  repeat (go_big_quiet_step (fail))
  refine wpQuiet_nil ?_;clear rs1 r1_0 r1_1 r1_2 r1_3 r1_4 r1_5 r1_6 r1_7 r1_8 r1_9 r1_10 r1_11 rs2 r2_0 r2_1 r2_2 r2_3 r2_4 r2_5 r2_6 r2_7 r2_8 r2_9 r2_10 r2_11;clear _ne;have KH_w21:=Hd K_w21;have hw_w21:=K_w21.below;have hz_w21:=K_w21.size;clear K_w21;clear E_w21 F_w21;go_wp2_with fail
  replace HB:=Hd (below_via HB.o hw_w21);replace HX1:=Hd (HX1.o.below hw_w21);replace HX2:=Hd (HX2.o.below hw_w21)
  go_roundw
  case rel=>exact⟨k+1,by omega,by go_num,HB.o,HX1.o,HX2.o⟩
  case measure=>simp[intOf];omega
 clear hb p1 p2;go_wp2_with fail
 clear c1_0 c2_0 hkl hk
 go_loopw [6] (fun i wr=>RsL w s1 s2 B B.bl.length i wr) (fun i _=>B.bl.length-(intOf i).toNat)
 case atStart=>exact⟨0,by omega,rfl,HB.o,HX1.o,HX2.o⟩
 obtain⟨k,hk,rfl,hb,hx1,hx2⟩:=hrel
 replace HB:=Hd hb;replace HX1:=Hd hx1;replace HX2:=Hd hx2;have p1:=hx1.lt;have p2:=hx2.lt;have c1_32:=HC1_32.o wr hx1;have c2_32:=HC2_32.o wr hx2;clear hx1 hx2
 by_cases hkl:k<B.bl.length
 ·obtain⟨b1,o1,rfl,hlt1,hc1⟩:=HFb1.o (by omega)
  obtain⟨b2,o2,rfl,hlt2,hc2⟩:=HFb2.o (by omega)
  obtain⟨x,hx⟩:∃x,B.bl[k]? =some x:=⟨_,List.getElem?_eq_getElem hkl⟩
  have hd1:∀(j:Nat) (u:Value),(kc x)[j]? =some u->wr.cell? ⟨b1,o1+(k*2+j),none⟩=some u:=fun j u hu=>(hb.cell (p:=⟨b1,o1+(k*2+j),none⟩) hlt1).trans (hc1 k _ hx j u hu)
  have d1_0:wr.cell? ⟨b1,o1+k*2,none⟩=some (.int .i64 x.bl):=hd1 0 _ rfl;have d1_1:=cA hd1 1 rfl;have hd2:∀(j:Nat) (u:Value),(kc x)[j]? =some u->wr.cell? ⟨b2,o2+(k*2+j),none⟩=some u:=fun j u hu=>(hb.cell (p:=⟨b2,o2+(k*2+j),none⟩) hlt2).trans (hc2 k _ hx j u hu)
  have d2_0:wr.cell? ⟨b2,o2+k*2,none⟩=some (.int .i64 x.bl):=hd2 0 _ rfl;have d2_1:=cA hd2 1 rfl;have g1:b1<wr.heap.size:=Nat.lt_of_lt_of_le hlt1 hb.size;have g2:b2<wr.heap.size:=Nat.lt_of_lt_of_le hlt2 hb.size;have i1:(0:Int)<=(k:Int):=by omega
  have i2:(k:Int)<(B.bl.length:Int):=by omega
  clear hc1 hc2 hx hb hd1 hd2
  go_upto_region 11 with fail
  refine rg13_11 (w0:=wr) (B:=wr.heap.size) (n:=wr.heap.size) (L:=[]) (by kernel_rfl) rfl (by kernel_rfl) (.t ⟨by go_grown,by go_size,(by simp[go_sem]<;>omega)⟩) (fun w21 K_w21 E_w21 F_w21=> ?_);have _ne:Nonempty (KX (wr.heap.size) wr (wr.heap.size) [] (fun _=>True)):=⟨⟨_,K_w21,E_w21⟩⟩
  repeat (go_big_quiet_step (fail))
  refine wpQuiet_nil ?_;have rs1:=rck _ne c1_32 p1;have r1_0:=rck _ne d1_0 g1;have r1_1:=rck _ne d1_1 g1;have rs2:=rck _ne c2_32 p2;have r2_0:=rck _ne d2_0 g2;have r2_1:=rck _ne d2_1 g2
  repeat (go_big_quiet_step (fail))
  refine wpQuiet_nil ?_
  repeat (go_big_quiet_step (fail))
  refine wpQuiet_nil ?_
  repeat (go_big_quiet_step (fail))
  refine wpQuiet_nil ?_
  repeat (go_big_quiet_step (fail))
  refine wpQuiet_nil ?_
  repeat (go_big_quiet_step (fail))
  refine wpQuiet_nil ?_
  repeat (go_big_quiet_step (fail))
  refine wpQuiet_nil ?_;clear rs1 r1_0 r1_1 rs2 r2_0 r2_1;clear _ne;have KH_w21:=Hd K_w21;have hw_w21:=K_w21.below;have hz_w21:=K_w21.size;clear K_w21;clear E_w21 F_w21;go_wp2_with fail
  replace HB:=Hd (below_via HB.o hw_w21);replace HX1:=Hd (HX1.o.below hw_w21);replace HX2:=Hd (HX2.o.below hw_w21)
  go_roundw
  case rel=>exact⟨k+1,by omega,by go_num,HB.o,HX1.o,HX2.o⟩
  case measure=>simp[intOf];omega
 clear hb p1 p2;go_wp2_with fail
 clear c1_32 c2_32 hkl hk
 go_loopw [7] (fun i wr=>RsL w s1 s2 B 2 i wr) (fun i _=>2-(intOf i).toNat)
 case atStart=>exact⟨0,by omega,rfl,HB.o,HX1.o,HX2.o⟩
 obtain⟨p,hp,rfl,hb,hx1,hx2⟩:=hrel
 replace HB:=Hd hb;replace HX1:=Hd hx1;replace HX2:=Hd hx2
 by_cases hp2:p<2
 ·obtain⟨S,hS⟩:∃S,B.seat p=S:=⟨_,rfl⟩
  obtain⟨⟨l1a,l1n,l1c⟩,el1⟩:∃q,s1.zl p 0=q:=⟨_,rfl⟩
  obtain⟨⟨h1a,h1n,h1c⟩,eh1⟩:∃q,s1.zl p 1=q:=⟨_,rfl⟩
  obtain⟨⟨f1a,f1n,f1c⟩,ef1⟩:∃q,s1.zl p 2=q:=⟨_,rfl⟩
  obtain⟨⟨g1a,g1n,g1c⟩,eg1⟩:∃q,s1.zl p 3=q:=⟨_,rfl⟩
  obtain⟨⟨l2a,l2n,l2c⟩,el2⟩:∃q,s2.zl p 0=q:=⟨_,rfl⟩
  obtain⟨⟨h2a,h2n,h2c⟩,eh2⟩:∃q,s2.zl p 1=q:=⟨_,rfl⟩
  obtain⟨⟨f2a,f2n,f2c⟩,ef2⟩:∃q,s2.zl p 2=q:=⟨_,rfl⟩
  obtain⟨⟨g2a,g2n,g2c⟩,eg2⟩:∃q,s2.zl p 3=q:=⟨_,rfl⟩
  have HE:Hid (s1.zl p 0=⟨l1a,l1n,l1c⟩/\s1.zl p 1=⟨h1a,h1n,h1c⟩/\s1.zl p 2=⟨f1a,f1n,f1c⟩/\s1.zl p 3=⟨g1a,g1n,g1c⟩/\s2.zl p 0=⟨l2a,l2n,l2c⟩/\s2.zl p 1=⟨h2a,h2n,h2c⟩/\s2.zl p 2=⟨f2a,f2n,f2c⟩/\s2.zl p 3=⟨g2a,g2n,g2c⟩):=Hd ⟨el1,eh1,ef1,eg1,el2,eh2,ef2,eg2⟩;have HS:=Hd hS;have q1:wr.rangeAt w.heap.size (1+p*14) (seL ⟨l1a,l1n,l1c⟩ ⟨h1a,h1n,h1c⟩ ⟨f1a,f1n,f1c⟩ ⟨g1a,g1n,g1c⟩ S):=by have h:=hx1.seat hp2;rw[el1,eh1,ef1,eg1,hS] at h;exact h
  have q2:wr.rangeAt (w.heap.size+1) (1+p*14) (seL ⟨l2a,l2n,l2c⟩ ⟨h2a,h2n,h2c⟩ ⟨f2a,f2n,f2c⟩ ⟨g2a,g2n,g2c⟩ S):=by have h:=hx2.seat hp2;rw[el2,eh2,ef2,eg2,hS] at h;exact h
  have e1_0:wr.cell? ⟨w.heap.size,1+p*14,none⟩=some (.int .i64 S.li):=q1 0 _ rfl;have e1_1:wr.cell? ⟨w.heap.size,1+p*14+1,none⟩=some (.int .i64 S.p0):=q1 1 _ rfl;have e1_2:wr.cell? ⟨w.heap.size,1+p*14+2,none⟩=some (.int .i64 S.p1):=q1 2 _ rfl;have e1_3:wr.cell? ⟨w.heap.size,1+p*14+3,none⟩=some (.int .i64 S.p2):=q1 3 _ rfl;have e1_4:wr.cell? ⟨w.heap.size,1+p*14+4,none⟩=some (.int .i64 S.p3):=q1 4 _ rfl;have e1_5:wr.cell? ⟨w.heap.size,1+p*14+5,none⟩=some (.slice l1a l1n l1c):=q1 5 _ rfl;have e1_6:wr.cell? ⟨w.heap.size,1+p*14+6,none⟩=some (.slice h1a h1n h1c):=q1 6 _ rfl;have e1_7:wr.cell? ⟨w.heap.size,1+p*14+7,none⟩=some (.slice f1a f1n f1c):=q1 7 _ rfl;have e1_8:wr.cell? ⟨w.heap.size,1+p*14+8,none⟩=some (.slice g1a g1n g1c):=q1 8 _ rfl;have e1_9:wr.cell? ⟨w.heap.size,1+p*14+9,none⟩=some (.bool S.em):=q1 9 _ rfl;have e1_10:wr.cell? ⟨w.heap.size,1+p*14+10,none⟩=some (.bool S.py):=q1 10 _ rfl;have e1_11:wr.cell? ⟨w.heap.size,1+p*14+11,none⟩=some (.bool S.kp):=q1 11 _ rfl;have e1_12:wr.cell? ⟨w.heap.size,1+p*14+12,none⟩=some (.int .i64 S.mu):=q1 12 _ rfl;have e1_13:wr.cell? ⟨w.heap.size,1+p*14+13,none⟩=some (.int .i64 S.ac):=q1 13 _ rfl;have e2_0:wr.cell? ⟨w.heap.size+1,1+p*14,none⟩=some (.int .i64 S.li):=q2 0 _ rfl;have e2_1:wr.cell? ⟨w.heap.size+1,1+p*14+1,none⟩=some (.int .i64 S.p0):=q2 1 _ rfl;have e2_2:wr.cell? ⟨w.heap.size+1,1+p*14+2,none⟩=some (.int .i64 S.p1):=q2 2 _ rfl;have e2_3:wr.cell? ⟨w.heap.size+1,1+p*14+3,none⟩=some (.int .i64 S.p2):=q2 3 _ rfl;have e2_4:wr.cell? ⟨w.heap.size+1,1+p*14+4,none⟩=some (.int .i64 S.p3):=q2 4 _ rfl;have e2_5:wr.cell? ⟨w.heap.size+1,1+p*14+5,none⟩=some (.slice l2a l2n l2c):=q2 5 _ rfl;have e2_6:wr.cell? ⟨w.heap.size+1,1+p*14+6,none⟩=some (.slice h2a h2n h2c):=q2 6 _ rfl;have e2_7:wr.cell? ⟨w.heap.size+1,1+p*14+7,none⟩=some (.slice f2a f2n f2c):=q2 7 _ rfl;have e2_8:wr.cell? ⟨w.heap.size+1,1+p*14+8,none⟩=some (.slice g2a g2n g2c):=q2 8 _ rfl;have e2_9:wr.cell? ⟨w.heap.size+1,1+p*14+9,none⟩=some (.bool S.em):=q2 9 _ rfl;have e2_10:wr.cell? ⟨w.heap.size+1,1+p*14+10,none⟩=some (.bool S.py):=q2 10 _ rfl;have e2_11:wr.cell? ⟨w.heap.size+1,1+p*14+11,none⟩=some (.bool S.kp):=q2 11 _ rfl;have e2_12:wr.cell? ⟨w.heap.size+1,1+p*14+12,none⟩=some (.int .i64 S.mu):=q2 12 _ rfl;have e2_13:wr.cell? ⟨w.heap.size+1,1+p*14+13,none⟩=some (.int .i64 S.ac):=q2 13 _ rfl;have p1:=hx1.lt;have p2:=hx2.lt;have i1:(0:Int)<=(p:Int):=by omega
  have i2:(p:Int)<2:=by omega
  clear q1 q2 hx1 hx2 hb el1 eh1 ef1 eg1 el2 eh2 ef2 eg2 hS
  go_upto_region 16 with fail
  go_cut [8,9] (fun s8 s9 wx=>∃X Y,s8= .pointer (some ⟨X,0,none⟩)/\s9= .pointer (some ⟨Y,0,none⟩)/\Ro wx X #[.int .i64 S.li,.int .i64 S.p0,.int .i64 S.p1,.int .i64 S.p2,.int .i64 S.p3,.slice l1a l1n l1c,.slice h1a h1n h1c,.slice f1a f1n f1c,.slice g1a g1n g1c,.bool S.em,.bool S.py,.bool S.kp,.int .i64 S.mu,.int .i64 S.ac] 28/\Ro wx Y #[.int .i64 S.li,.int .i64 S.p0,.int .i64 S.p1,.int .i64 S.p2,.int .i64 S.p3,.slice l2a l2n l2c,.slice h2a h2n h2c,.slice f2a f2n f2c,.slice g2a g2n g2c,.bool S.em,.bool S.py,.bool S.kp,.int .i64 S.mu,.int .i64 S.ac] 28/\Below wr.heap.size wr wx)
  case first=>
    refine rg13_16 (w0:=wr) (B:=wr.heap.size) (n:=wr.heap.size) (L:=[]) (by kernel_rfl) rfl (by kernel_rfl) (.t ⟨by go_grown,by go_size,(by simp[go_sem]<;>omega)⟩) (fun w41 K_w41 E_w41 F_w41=> ?_);have _ne:Nonempty (KX (wr.heap.size) wr (wr.heap.size) [] (fun _=>True)):=⟨⟨_,K_w41,E_w41⟩⟩
    repeat (go_big_quiet_step (fail))
    refine wpQuiet_nil ?_;have rs1_0:=rck _ne e1_0 p1;have rs1_1:=rck _ne e1_1 p1;have rs1_2:=rck _ne e1_2 p1;have rs1_3:=rck _ne e1_3 p1;have rs1_4:=rck _ne e1_4 p1;have rs1_5:=rck _ne e1_5 p1;have rs1_6:=rck _ne e1_6 p1;have rs1_7:=rck _ne e1_7 p1;have rs1_8:=rck _ne e1_8 p1;have rs1_9:=rck _ne e1_9 p1;have rs1_10:=rck _ne e1_10 p1;have rs1_11:=rck _ne e1_11 p1;have rs1_12:=rck _ne e1_12 p1;have rs1_13:=rck _ne e1_13 p1;have rs2_0:=rck _ne e2_0 p2;have rs2_1:=rck _ne e2_1 p2;have rs2_2:=rck _ne e2_2 p2;have rs2_3:=rck _ne e2_3 p2;have rs2_4:=rck _ne e2_4 p2;have rs2_5:=rck _ne e2_5 p2;have rs2_6:=rck _ne e2_6 p2;have rs2_7:=rck _ne e2_7 p2;have rs2_8:=rck _ne e2_8 p2;have rs2_9:=rck _ne e2_9 p2;have rs2_10:=rck _ne e2_10 p2;have rs2_11:=rck _ne e2_11 p2;have rs2_12:=rck _ne e2_12 p2;have rs2_13:=rck _ne e2_13 p2
    repeat (go_big_quiet_step (fail))
    refine wpQuiet_nil ?_;have KH_w41:=Hd K_w41;have hw_w41:=K_w41.below;have hz_w41:=K_w41.size;clear K_w41;clear E_w41 F_w41
    refine⟨fun K hK0=> ?_,fun K hK0=> ?_,trivial⟩
    ·skip
     have hK:=Hd hK0;clear hK0;have HW:=Hd hw_w41;clear hw_w41 hz_w41 KH_w41;go_wp2_with fail
     first|refine⟨rfl,?u,hK.o _ _ ?_⟩|refine⟨?u,hK.o _ _ ?_⟩
     case u=>exact⟨⟨_,⟨HW.o.alloc HW.o.size _,Nat.le_trans HW.o.size (by simp),by simp⟩,trivial⟩,rfl⟩
     clear hK K
     refine⟨fun K hK0=> ?_,trivial⟩
     have hK:=Hd hK0;clear hK0
     obtain⟨w42,hv⟩:∃X,X=w41.alloc (.cells #[.int .i64 0,.int .i64 0,.int .i64 0,.int .i64 0,.int .i64 0,.slice none 0 0,.slice none 0 0,.slice none 0 0,.slice none 0 0,.bool false,.bool false,.bool false,.int .i64 0,.int .i64 0] 28):=⟨_,rfl⟩
     obtain⟨bX,hn⟩:∃n,n=w41.heap.size:=⟨_,rfl⟩
     rw[<-hv,<-hn];have hb:=al_b hv;have HGX:=Hd (al_g HW hn);replace HW:=Hd (below_via HW.o hb);have X:=Hd (al_r hv hn);clear hv hb hn;go_wp2_with fail
     first|refine⟨rfl,?u,hK.o _ _ ?_⟩|refine⟨?u,hK.o _ _ ?_⟩
     case u=>exact⟨⟨_,⟨HW.o.alloc HW.o.size _,Nat.le_trans HW.o.size (by simp),by simp⟩,trivial⟩,rfl⟩
     clear hK K
     refine⟨fun K hK0=> ?_,trivial⟩
     have hK:=Hd hK0;clear hK0
     obtain⟨w43,hv⟩:∃X,X=w42.alloc (.cells #[.int .i64 0,.int .i64 0,.int .i64 0,.int .i64 0,.int .i64 0,.slice none 0 0,.slice none 0 0,.slice none 0 0,.slice none 0 0,.bool false,.bool false,.bool false,.int .i64 0,.int .i64 0] 28):=⟨_,rfl⟩
     obtain⟨bY,hn⟩:∃n,n=w42.heap.size:=⟨_,rfl⟩
     rw[<-hv,<-hn];have hb:=al_b hv;have HGY:=Hd (al_g HW hn);have HEYX:=Hd (al_n X.out hn);replace X:=Hd (X.out.below hb);replace HW:=Hd (below_via HW.o hb);have Y:=Hd (al_r hv hn);clear hv hb hn;go_wp2_with (refine wpList_store_rx 28 rfl _ _ rfl rfl rfl X.out rfl rfl (by simp[Value.oneCell']) ?_)
     intro w44 hv;have ho:=st_o hv;replace X:=Hd (st_r X.out hv);replace Y:=Hd (st_n Y.out ho HEYX.o.symm);replace HW:=Hd (st_w HW.o ho HGX.o);clear ho hv;go_wp2_with fail
     first|refine⟨rfl,?u,hK.o _ _ ?_⟩|refine⟨?u,hK.o _ _ ?_⟩
     case u=>exact⟨⟨_,⟨HW.o,HW.o.size,by simp⟩,trivial⟩,rfl⟩
     clear hK K
     refine⟨fun K hK0=> ?_,trivial⟩
     have hK:=Hd hK0;clear hK0;go_wp2_with (refine wpList_store_rx 28 rfl _ _ rfl rfl rfl Y.out rfl rfl (by simp[Value.oneCell']) ?_)
     intro w45 hv;have ho:=st_o hv;replace Y:=Hd (st_r Y.out hv);replace X:=Hd (st_n X.out ho HEYX.o);replace HW:=Hd (st_w HW.o ho HGY.o);clear ho hv;go_wp2_with fail
     first|refine⟨rfl,hK.o _ _ ?_⟩|refine hK.o _ _ ?_
     clear hK K;clear _ne rs1_0 rs1_1 rs1_2 rs1_3 rs1_4 rs1_5 rs1_6 rs1_7 rs1_8 rs1_9 rs1_10 rs1_11 rs1_12 rs1_13 rs2_0 rs2_1 rs2_2 rs2_3 rs2_4 rs2_5 rs2_6 rs2_7 rs2_8 rs2_9 rs2_10 rs2_11 rs2_12 rs2_13;go_wp2_with fail
     go_meet
     case rel=>exact⟨bX,bY,rfl,rfl,X.out,Y.out,HW.o⟩
    skip
    have hK:=Hd hK0;clear hK0;have HW:=Hd hw_w41;clear hw_w41 hz_w41 KH_w41;go_wp2_with fail
    first|refine⟨rfl,?u,hK.o _ _ ?_⟩|refine⟨?u,hK.o _ _ ?_⟩
    case u=>exact⟨⟨_,⟨HW.o.alloc HW.o.size _,Nat.le_trans HW.o.size (by simp),by simp⟩,trivial⟩,rfl⟩
    clear hK K
    refine⟨fun K hK0=> ?_,trivial⟩
    have hK:=Hd hK0;clear hK0
    obtain⟨w42,hv⟩:∃X,X=w41.alloc (.cells #[.int .i64 0,.int .i64 0,.int .i64 0,.int .i64 0,.int .i64 0,.slice none 0 0,.slice none 0 0,.slice none 0 0,.slice none 0 0,.bool false,.bool false,.bool false,.int .i64 0,.int .i64 0] 28):=⟨_,rfl⟩
    obtain⟨bY,hn⟩:∃n,n=w41.heap.size:=⟨_,rfl⟩
    rw[<-hv,<-hn];have hb:=al_b hv;have HGY:=Hd (al_g HW hn);replace HW:=Hd (below_via HW.o hb);have Y:=Hd (al_r hv hn);clear hv hb hn;go_wp2_with fail
    first|refine⟨rfl,?u,hK.o _ _ ?_⟩|refine⟨?u,hK.o _ _ ?_⟩
    case u=>exact⟨⟨_,⟨HW.o.alloc HW.o.size _,Nat.le_trans HW.o.size (by simp),by simp⟩,trivial⟩,rfl⟩
    clear hK K
    refine⟨fun K hK0=> ?_,trivial⟩
    have hK:=Hd hK0;clear hK0
    obtain⟨w43,hv⟩:∃X,X=w42.alloc (.cells #[.int .i64 0,.int .i64 0,.int .i64 0,.int .i64 0,.int .i64 0,.slice none 0 0,.slice none 0 0,.slice none 0 0,.slice none 0 0,.bool false,.bool false,.bool false,.int .i64 0,.int .i64 0] 28):=⟨_,rfl⟩
    obtain⟨bX,hn⟩:∃n,n=w42.heap.size:=⟨_,rfl⟩
    rw[<-hv,<-hn];have hb:=al_b hv;have HGX:=Hd (al_g HW hn);have HEXY:=Hd (al_n Y.out hn);replace Y:=Hd (Y.out.below hb);replace HW:=Hd (below_via HW.o hb);have X:=Hd (al_r hv hn);clear hv hb hn;go_wp2_with (refine wpList_store_rx 28 rfl _ _ rfl rfl rfl X.out rfl rfl (by simp[Value.oneCell']) ?_)
    intro w44 hv;have ho:=st_o hv;replace X:=Hd (st_r X.out hv);replace Y:=Hd (st_n Y.out ho HEXY.o);replace HW:=Hd (st_w HW.o ho HGX.o);clear ho hv;go_wp2_with fail
    first|refine⟨rfl,?u,hK.o _ _ ?_⟩|refine⟨?u,hK.o _ _ ?_⟩
    case u=>exact⟨⟨_,⟨HW.o,HW.o.size,by simp⟩,trivial⟩,rfl⟩
    clear hK K
    refine⟨fun K hK0=> ?_,trivial⟩
    have hK:=Hd hK0;clear hK0;go_wp2_with (refine wpList_store_rx 28 rfl _ _ rfl rfl rfl Y.out rfl rfl (by simp[Value.oneCell']) ?_)
    intro w45 hv;have ho:=st_o hv;replace Y:=Hd (st_r Y.out hv);replace X:=Hd (st_n X.out ho HEXY.o.symm);replace HW:=Hd (st_w HW.o ho HGY.o);clear ho hv;go_wp2_with fail
    first|refine⟨rfl,hK.o _ _ ?_⟩|refine hK.o _ _ ?_
    clear hK K;clear _ne rs1_0 rs1_1 rs1_2 rs1_3 rs1_4 rs1_5 rs1_6 rs1_7 rs1_8 rs1_9 rs1_10 rs1_11 rs1_12 rs1_13 rs2_0 rs2_1 rs2_2 rs2_3 rs2_4 rs2_5 rs2_6 rs2_7 rs2_8 rs2_9 rs2_10 rs2_11 rs2_12 rs2_13;go_wp2_with fail
    go_meet
    case rel=>exact⟨bX,bY,rfl,rfl,X.out,Y.out,HW.o⟩
  obtain⟨bX,bY,rfl,rfl,hX,hY,hW⟩:=hcut
  replace HB:=Hd (below_via HB.o hW);replace HX1:=Hd (HX1.o.below hW);replace HX2:=Hd (HX2.o.below hW);have x1_0:wc.cell? ⟨bX,0,none⟩=some (.int .i64 S.li):=hX.cell 0;have x1_1:wc.cell? ⟨bX,1,none⟩=some (.int .i64 S.p0):=hX.cell 1;have x1_2:wc.cell? ⟨bX,2,none⟩=some (.int .i64 S.p1):=hX.cell 2;have x1_3:wc.cell? ⟨bX,3,none⟩=some (.int .i64 S.p2):=hX.cell 3;have x1_4:wc.cell? ⟨bX,4,none⟩=some (.int .i64 S.p3):=hX.cell 4;have x1_5:wc.cell? ⟨bX,5,none⟩=some (.slice l1a l1n l1c):=hX.cell 5;have x1_6:wc.cell? ⟨bX,6,none⟩=some (.slice h1a h1n h1c):=hX.cell 6;have x1_7:wc.cell? ⟨bX,7,none⟩=some (.slice f1a f1n f1c):=hX.cell 7;have x1_8:wc.cell? ⟨bX,8,none⟩=some (.slice g1a g1n g1c):=hX.cell 8;have x1_9:wc.cell? ⟨bX,9,none⟩=some (.bool S.em):=hX.cell 9;have x1_10:wc.cell? ⟨bX,10,none⟩=some (.bool S.py):=hX.cell 10;have x1_11:wc.cell? ⟨bX,11,none⟩=some (.bool S.kp):=hX.cell 11;have x1_12:wc.cell? ⟨bX,12,none⟩=some (.int .i64 S.mu):=hX.cell 12;have x1_13:wc.cell? ⟨bX,13,none⟩=some (.int .i64 S.ac):=hX.cell 13;have x2_0:wc.cell? ⟨bY,0,none⟩=some (.int .i64 S.li):=hY.cell 0;have x2_1:wc.cell? ⟨bY,1,none⟩=some (.int .i64 S.p0):=hY.cell 1;have x2_2:wc.cell? ⟨bY,2,none⟩=some (.int .i64 S.p1):=hY.cell 2;have x2_3:wc.cell? ⟨bY,3,none⟩=some (.int .i64 S.p2):=hY.cell 3;have x2_4:wc.cell? ⟨bY,4,none⟩=some (.int .i64 S.p3):=hY.cell 4;have x2_5:wc.cell? ⟨bY,5,none⟩=some (.slice l2a l2n l2c):=hY.cell 5;have x2_6:wc.cell? ⟨bY,6,none⟩=some (.slice h2a h2n h2c):=hY.cell 6;have x2_7:wc.cell? ⟨bY,7,none⟩=some (.slice f2a f2n f2c):=hY.cell 7;have x2_8:wc.cell? ⟨bY,8,none⟩=some (.slice g2a g2n g2c):=hY.cell 8;have x2_9:wc.cell? ⟨bY,9,none⟩=some (.bool S.em):=hY.cell 9;have x2_10:wc.cell? ⟨bY,10,none⟩=some (.bool S.py):=hY.cell 10;have x2_11:wc.cell? ⟨bY,11,none⟩=some (.bool S.kp):=hY.cell 11;have x2_12:wc.cell? ⟨bY,12,none⟩=some (.int .i64 S.mu):=hY.cell 12;have x2_13:wc.cell? ⟨bY,13,none⟩=some (.int .i64 S.ac):=hY.cell 13;have px1:=hX.lt;have px2:=hY.lt;have u0:(S.li !=S.li)=false:=by simp
  have u1:(S.p0 !=S.p0)=false:=by simp
  have u2:(S.p1 !=S.p1)=false:=by simp
  have u3:(S.p2 !=S.p2)=false:=by simp
  have u4:(S.p3 !=S.p3)=false:=by simp
  have u5:(S.em !=S.em)=false:=by simp
  have u6:(S.py !=S.py)=false:=by simp
  have u7:(S.kp !=S.kp)=false:=by simp
  have u8:(S.mu !=S.mu)=false:=by simp
  have u9:(S.ac !=S.ac)=false:=by simp
  clear e1_0 e1_1 e1_2 e1_3 e1_4 e1_5 e1_6 e1_7 e1_8 e1_9 e1_10 e1_11 e1_12 e1_13 e2_0 e2_1 e2_2 e2_3 e2_4 e2_5 e2_6 e2_7 e2_8 e2_9 e2_10 e2_11 e2_12 e2_13 p1 p2 hX hY hW;have hman:(Op.equalIn 10000 25 (.agg #[.int .i64 S.p0,.int .i64 S.p1,.int .i64 S.p2,.int .i64 S.p3]) (.agg #[.int .i64 S.p0,.int .i64 S.p1,.int .i64 S.p2,.int .i64 S.p3])).run Tryz.prog wc= .ok true wc:=by rw[manaEqG];simp
  go_upto_region 19 with fail
  clear hman;clear u0 u1 u2 u3 u4 u5 u6 u7 u8 u9
  go_cut [10,11] (fun s10 s11 wx=>∃U V,s10= .pointer (some ⟨U,0,none⟩)/\s11= .pointer (some ⟨V,0,none⟩)/\Ro wx U #[.slice l1a l1n l1c,.slice h1a h1n h1c,.slice f1a f1n f1c,.slice g1a g1n g1c] 68/\Ro wx V #[.slice l2a l2n l2c,.slice h2a h2n h2c,.slice f2a f2n f2c,.slice g2a g2n g2c] 68/\Below wc.heap.size wc wx)
  case first=>
   refine rg13_19 (w0:=wc) (B:=wc.heap.size) (n:=wc.heap.size) (L:=[]) (by kernel_rfl) rfl (by kernel_rfl) (.t ⟨by go_grown,by go_size,(by simp[go_sem]<;>omega)⟩) (fun w61 K_w61 E_w61 F_w61=> ?_);have _ne:Nonempty (KX (wc.heap.size) wc (wc.heap.size) [] (fun _=>True)):=⟨⟨_,K_w61,E_w61⟩⟩;have rx1_0:=rck _ne x1_0 px1;have rx1_1:=rck _ne x1_1 px1;have rx1_2:=rck _ne x1_2 px1;have rx1_3:=rck _ne x1_3 px1;have rx1_4:=rck _ne x1_4 px1;have rx1_5:=rck _ne x1_5 px1;have rx1_6:=rck _ne x1_6 px1;have rx1_7:=rck _ne x1_7 px1;have rx1_8:=rck _ne x1_8 px1;have rx1_9:=rck _ne x1_9 px1;have rx1_10:=rck _ne x1_10 px1;have rx1_11:=rck _ne x1_11 px1;have rx1_12:=rck _ne x1_12 px1;have rx1_13:=rck _ne x1_13 px1;have rx2_0:=rck _ne x2_0 px2;have rx2_1:=rck _ne x2_1 px2;have rx2_2:=rck _ne x2_2 px2;have rx2_3:=rck _ne x2_3 px2;have rx2_4:=rck _ne x2_4 px2;have rx2_5:=rck _ne x2_5 px2;have rx2_6:=rck _ne x2_6 px2;have rx2_7:=rck _ne x2_7 px2;have rx2_8:=rck _ne x2_8 px2;have rx2_9:=rck _ne x2_9 px2;have rx2_10:=rck _ne x2_10 px2;have rx2_11:=rck _ne x2_11 px2;have rx2_12:=rck _ne x2_12 px2;have rx2_13:=rck _ne x2_13 px2
   repeat (go_big_quiet_step (fail))
   refine wpQuiet_nil ?_;have KH_w61:=Hd K_w61;have hw_w61:=K_w61.below;have hz_w61:=K_w61.size;clear K_w61;clear E_w61 F_w61
   refine⟨fun K hK0=> ?_,fun K hK0=> ?_,fun K hK0=> ?_,trivial⟩
   ·skip
    have hK:=Hd hK0;clear hK0;have HW:=Hd hw_w61;clear hw_w61 hz_w61 KH_w61;go_wp2_with fail
    with_reducible refine(zones S _).mono ?_
    rintro e w62 ⟨rfl,hb⟩;replace HW:=Hd (below_via HW.o hb);clear hb;go_wp2_with fail
    first|refine⟨rfl,?u,hK.o _ _ ?_⟩|refine⟨?u,hK.o _ _ ?_⟩
    case u=>exact⟨⟨_,⟨HW.o,HW.o.size,by simp⟩,trivial⟩,rfl⟩
    clear hK K
    refine⟨fun K hK0=> ?_,fun K hK0=> ?_,fun K hK0=> ?_,trivial⟩
    ·skip
     have hK:=Hd hK0;clear hK0;go_wp2_with fail
     with_reducible refine(zones S _).mono ?_
     rintro e w63 ⟨rfl,hb⟩;replace HW:=Hd (below_via HW.o hb);clear hb;go_wp2_with fail
     first|refine⟨rfl,hK.o _ _ ?_⟩|refine hK.o _ _ ?_
     clear hK K
     refine⟨fun K hK0=> ?_,fun K hK0=> ?_,trivial⟩
     ·skip
      have hK:=Hd hK0;clear hK0;go_wp2_with fail
      first|refine⟨rfl,?u,hK.o _ _ ?_⟩|refine⟨?u,hK.o _ _ ?_⟩
      case u=>exact⟨⟨_,⟨HW.o.alloc HW.o.size _,Nat.le_trans HW.o.size (by simp),by simp⟩,trivial⟩,rfl⟩
      clear hK K
      refine⟨fun K hK0=> ?_,trivial⟩
      have hK:=Hd hK0;clear hK0
      obtain⟨w64,hv⟩:∃X,X=w63.alloc (.cells #[.slice none 0 0,.slice none 0 0,.slice none 0 0,.slice none 0 0] 68):=⟨_,rfl⟩
      obtain⟨bU,hn⟩:∃n,n=w63.heap.size:=⟨_,rfl⟩
      rw[<-hv,<-hn];have hb:=al_b hv;have HGU:=Hd (al_g HW hn);replace HW:=Hd (below_via HW.o hb);have U:=Hd (al_r hv hn);clear hv hb hn;go_wp2_with fail
      first|refine⟨rfl,?u,hK.o _ _ ?_⟩|refine⟨?u,hK.o _ _ ?_⟩
      case u=>exact⟨⟨_,⟨HW.o.alloc HW.o.size _,Nat.le_trans HW.o.size (by simp),by simp⟩,trivial⟩,rfl⟩
      clear hK K
      refine⟨fun K hK0=> ?_,trivial⟩
      have hK:=Hd hK0;clear hK0
      obtain⟨w65,hv⟩:∃X,X=w64.alloc (.cells #[.slice none 0 0,.slice none 0 0,.slice none 0 0,.slice none 0 0] 68):=⟨_,rfl⟩
      obtain⟨bV,hn⟩:∃n,n=w64.heap.size:=⟨_,rfl⟩
      rw[<-hv,<-hn];have hb:=al_b hv;have HGV:=Hd (al_g HW hn);have HEVU:=Hd (al_n U.out hn);replace U:=Hd (U.out.below hb);replace HW:=Hd (below_via HW.o hb);have V:=Hd (al_r hv hn);clear hv hb hn;go_wp2_with (refine wpList_store_rx 68 rfl _ _ rfl rfl rfl U.out rfl rfl (by simp[Value.oneCell']) ?_)
      intro w66 hv;have ho:=st_o hv;replace U:=Hd (st_r U.out hv);replace V:=Hd (st_n V.out ho HEVU.o.symm);replace HW:=Hd (st_w HW.o ho HGU.o);clear ho hv;go_wp2_with fail
      first|refine⟨rfl,hK.o _ _ ?_⟩|refine hK.o _ _ ?_
      clear hK K
      refine⟨fun K hK0=> ?_,trivial⟩
      have hK:=Hd hK0;clear hK0;go_wp2_with (refine wpList_store_rx 68 rfl _ _ rfl rfl rfl V.out rfl rfl (by simp[Value.oneCell']) ?_)
      intro w67 hv;have ho:=st_o hv;replace V:=Hd (st_r V.out hv);replace U:=Hd (st_n U.out ho HEVU.o);replace HW:=Hd (st_w HW.o ho HGV.o);clear ho hv;go_wp2_with fail
      first|refine⟨rfl,hK.o _ _ ?_⟩|refine hK.o _ _ ?_
      clear hK K;clear _ne rx1_0 rx1_1 rx1_2 rx1_3 rx1_4 rx1_5 rx1_6 rx1_7 rx1_8 rx1_9 rx1_10 rx1_11 rx1_12 rx1_13 rx2_0 rx2_1 rx2_2 rx2_3 rx2_4 rx2_5 rx2_6 rx2_7 rx2_8 rx2_9 rx2_10 rx2_11 rx2_12 rx2_13;go_wp2_with fail
      go_meet
      case rel=>exact⟨bU,bV,rfl,rfl,U.out,V.out,HW.o⟩
     skip
     have hK:=Hd hK0;clear hK0;go_wp2_with fail
     first|refine⟨rfl,?u,hK.o _ _ ?_⟩|refine⟨?u,hK.o _ _ ?_⟩
     case u=>exact⟨⟨_,⟨HW.o.alloc HW.o.size _,Nat.le_trans HW.o.size (by simp),by simp⟩,trivial⟩,rfl⟩
     clear hK K
     refine⟨fun K hK0=> ?_,trivial⟩
     have hK:=Hd hK0;clear hK0
     obtain⟨w64,hv⟩:∃X,X=w63.alloc (.cells #[.slice none 0 0,.slice none 0 0,.slice none 0 0,.slice none 0 0] 68):=⟨_,rfl⟩
     obtain⟨bV,hn⟩:∃n,n=w63.heap.size:=⟨_,rfl⟩
     rw[<-hv,<-hn];have hb:=al_b hv;have HGV:=Hd (al_g HW hn);replace HW:=Hd (below_via HW.o hb);have V:=Hd (al_r hv hn);clear hv hb hn;go_wp2_with fail
     first|refine⟨rfl,?u,hK.o _ _ ?_⟩|refine⟨?u,hK.o _ _ ?_⟩
     case u=>exact⟨⟨_,⟨HW.o.alloc HW.o.size _,Nat.le_trans HW.o.size (by simp),by simp⟩,trivial⟩,rfl⟩
     clear hK K
     refine⟨fun K hK0=> ?_,trivial⟩
     have hK:=Hd hK0;clear hK0
     obtain⟨w65,hv⟩:∃X,X=w64.alloc (.cells #[.slice none 0 0,.slice none 0 0,.slice none 0 0,.slice none 0 0] 68):=⟨_,rfl⟩
     obtain⟨bU,hn⟩:∃n,n=w64.heap.size:=⟨_,rfl⟩
     rw[<-hv,<-hn];have hb:=al_b hv;have HGU:=Hd (al_g HW hn);have HEUV:=Hd (al_n V.out hn);replace V:=Hd (V.out.below hb);replace HW:=Hd (below_via HW.o hb);have U:=Hd (al_r hv hn);clear hv hb hn;go_wp2_with (refine wpList_store_rx 68 rfl _ _ rfl rfl rfl U.out rfl rfl (by simp[Value.oneCell']) ?_)
     intro w66 hv;have ho:=st_o hv;replace U:=Hd (st_r U.out hv);replace V:=Hd (st_n V.out ho HEUV.o);replace HW:=Hd (st_w HW.o ho HGU.o);clear ho hv;go_wp2_with fail
     first|refine⟨rfl,hK.o _ _ ?_⟩|refine hK.o _ _ ?_
     clear hK K
     refine⟨fun K hK0=> ?_,trivial⟩
     have hK:=Hd hK0;clear hK0;go_wp2_with (refine wpList_store_rx 68 rfl _ _ rfl rfl rfl V.out rfl rfl (by simp[Value.oneCell']) ?_)
     intro w67 hv;have ho:=st_o hv;replace V:=Hd (st_r V.out hv);replace U:=Hd (st_n U.out ho HEUV.o.symm);replace HW:=Hd (st_w HW.o ho HGV.o);clear ho hv;go_wp2_with fail
     first|refine⟨rfl,hK.o _ _ ?_⟩|refine hK.o _ _ ?_
     clear hK K;clear _ne rx1_0 rx1_1 rx1_2 rx1_3 rx1_4 rx1_5 rx1_6 rx1_7 rx1_8 rx1_9 rx1_10 rx1_11 rx1_12 rx1_13 rx2_0 rx2_1 rx2_2 rx2_3 rx2_4 rx2_5 rx2_6 rx2_7 rx2_8 rx2_9 rx2_10 rx2_11 rx2_12 rx2_13;go_wp2_with fail
     go_meet
     case rel=>exact⟨bU,bV,rfl,rfl,U.out,V.out,HW.o⟩
    ·skip
     have hK:=Hd hK0;clear hK0;go_wp2_with fail
     first|refine⟨rfl,?u,hK.o _ _ ?_⟩|refine⟨?u,hK.o _ _ ?_⟩
     case u=>exact⟨⟨_,⟨HW.o.alloc HW.o.size _,Nat.le_trans HW.o.size (by simp),by simp⟩,trivial⟩,rfl⟩
     clear hK K
     refine⟨fun K hK0=> ?_,fun K hK0=> ?_,trivial⟩
     ·skip
      have hK:=Hd hK0;clear hK0
      obtain⟨w63,hv⟩:∃X,X=w62.alloc (.cells #[.slice none 0 0,.slice none 0 0,.slice none 0 0,.slice none 0 0] 68):=⟨_,rfl⟩
      obtain⟨bU,hn⟩:∃n,n=w62.heap.size:=⟨_,rfl⟩
      rw[<-hv,<-hn];have hb:=al_b hv;have HGU:=Hd (al_g HW hn);replace HW:=Hd (below_via HW.o hb);have U:=Hd (al_r hv hn);clear hv hb hn;go_wp2_with fail
      with_reducible refine(zones S _).mono ?_
      rintro e w64 ⟨rfl,hb⟩;replace U:=Hd (U.out.below hb);replace HW:=Hd (below_via HW.o hb);clear hb;go_wp2_with fail
      first|refine⟨rfl,hK.o _ _ ?_⟩|refine hK.o _ _ ?_
      clear hK K
      refine⟨fun K hK0=> ?_,trivial⟩
      have hK:=Hd hK0;clear hK0;go_wp2_with fail
      first|refine⟨rfl,?u,hK.o _ _ ?_⟩|refine⟨?u,hK.o _ _ ?_⟩
      case u=>exact⟨⟨_,⟨HW.o.alloc HW.o.size _,Nat.le_trans HW.o.size (by simp),by simp⟩,trivial⟩,rfl⟩
      clear hK K
      refine⟨fun K hK0=> ?_,trivial⟩
      have hK:=Hd hK0;clear hK0
      obtain⟨w65,hv⟩:∃X,X=w64.alloc (.cells #[.slice none 0 0,.slice none 0 0,.slice none 0 0,.slice none 0 0] 68):=⟨_,rfl⟩
      obtain⟨bV,hn⟩:∃n,n=w64.heap.size:=⟨_,rfl⟩
      rw[<-hv,<-hn];have hb:=al_b hv;have HGV:=Hd (al_g HW hn);have HEVU:=Hd (al_n U.out hn);replace U:=Hd (U.out.below hb);replace HW:=Hd (below_via HW.o hb);have V:=Hd (al_r hv hn);clear hv hb hn;go_wp2_with (refine wpList_store_rx 68 rfl _ _ rfl rfl rfl U.out rfl rfl (by simp[Value.oneCell']) ?_)
      intro w66 hv;have ho:=st_o hv;replace U:=Hd (st_r U.out hv);replace V:=Hd (st_n V.out ho HEVU.o.symm);replace HW:=Hd (st_w HW.o ho HGU.o);clear ho hv;go_wp2_with fail
      first|refine⟨rfl,hK.o _ _ ?_⟩|refine hK.o _ _ ?_
      clear hK K
      refine⟨fun K hK0=> ?_,trivial⟩
      have hK:=Hd hK0;clear hK0;go_wp2_with (refine wpList_store_rx 68 rfl _ _ rfl rfl rfl V.out rfl rfl (by simp[Value.oneCell']) ?_)
      intro w67 hv;have ho:=st_o hv;replace V:=Hd (st_r V.out hv);replace U:=Hd (st_n U.out ho HEVU.o);replace HW:=Hd (st_w HW.o ho HGV.o);clear ho hv;go_wp2_with fail
      first|refine⟨rfl,hK.o _ _ ?_⟩|refine hK.o _ _ ?_
      clear hK K;clear _ne rx1_0 rx1_1 rx1_2 rx1_3 rx1_4 rx1_5 rx1_6 rx1_7 rx1_8 rx1_9 rx1_10 rx1_11 rx1_12 rx1_13 rx2_0 rx2_1 rx2_2 rx2_3 rx2_4 rx2_5 rx2_6 rx2_7 rx2_8 rx2_9 rx2_10 rx2_11 rx2_12 rx2_13;go_wp2_with fail
      go_meet
      case rel=>exact⟨bU,bV,rfl,rfl,U.out,V.out,HW.o⟩
     skip
     have hK:=Hd hK0;clear hK0
     obtain⟨w63,hv⟩:∃X,X=w62.alloc (.cells #[.slice none 0 0,.slice none 0 0,.slice none 0 0,.slice none 0 0] 68):=⟨_,rfl⟩
     obtain⟨bU,hn⟩:∃n,n=w62.heap.size:=⟨_,rfl⟩
     rw[<-hv,<-hn];have hb:=al_b hv;have HGU:=Hd (al_g HW hn);replace HW:=Hd (below_via HW.o hb);have U:=Hd (al_r hv hn);clear hv hb hn;go_wp2_with fail
     first|refine⟨rfl,?u,hK.o _ _ ?_⟩|refine⟨?u,hK.o _ _ ?_⟩
     case u=>exact⟨⟨_,⟨HW.o.alloc HW.o.size _,Nat.le_trans HW.o.size (by simp),by simp⟩,trivial⟩,rfl⟩
     clear hK K
     refine⟨fun K hK0=> ?_,trivial⟩
     have hK:=Hd hK0;clear hK0
     obtain⟨w64,hv⟩:∃X,X=w63.alloc (.cells #[.slice none 0 0,.slice none 0 0,.slice none 0 0,.slice none 0 0] 68):=⟨_,rfl⟩
     obtain⟨bV,hn⟩:∃n,n=w63.heap.size:=⟨_,rfl⟩
     rw[<-hv,<-hn];have hb:=al_b hv;have HGV:=Hd (al_g HW hn);have HEVU:=Hd (al_n U.out hn);replace U:=Hd (U.out.below hb);replace HW:=Hd (below_via HW.o hb);have V:=Hd (al_r hv hn);clear hv hb hn;go_wp2_with fail
     with_reducible refine(zones S _).mono ?_
     rintro e w65 ⟨rfl,hb⟩;replace U:=Hd (U.out.below hb);replace V:=Hd (V.out.below hb);replace HW:=Hd (below_via HW.o hb);clear hb;go_wp2_with fail
     first|refine⟨rfl,hK.o _ _ ?_⟩|refine hK.o _ _ ?_
     clear hK K
     refine⟨fun K hK0=> ?_,trivial⟩
     have hK:=Hd hK0;clear hK0;go_wp2_with (refine wpList_store_rx 68 rfl _ _ rfl rfl rfl U.out rfl rfl (by simp[Value.oneCell']) ?_)
     intro w66 hv;have ho:=st_o hv;replace U:=Hd (st_r U.out hv);replace V:=Hd (st_n V.out ho HEVU.o.symm);replace HW:=Hd (st_w HW.o ho HGU.o);clear ho hv;go_wp2_with fail
     first|refine⟨rfl,hK.o _ _ ?_⟩|refine hK.o _ _ ?_
     clear hK K
     refine⟨fun K hK0=> ?_,trivial⟩
     have hK:=Hd hK0;clear hK0;go_wp2_with (refine wpList_store_rx 68 rfl _ _ rfl rfl rfl V.out rfl rfl (by simp[Value.oneCell']) ?_)
     intro w67 hv;have ho:=st_o hv;replace V:=Hd (st_r V.out hv);replace U:=Hd (st_n U.out ho HEVU.o);replace HW:=Hd (st_w HW.o ho HGV.o);clear ho hv;go_wp2_with fail
     first|refine⟨rfl,hK.o _ _ ?_⟩|refine hK.o _ _ ?_
     clear hK K;clear _ne rx1_0 rx1_1 rx1_2 rx1_3 rx1_4 rx1_5 rx1_6 rx1_7 rx1_8 rx1_9 rx1_10 rx1_11 rx1_12 rx1_13 rx2_0 rx2_1 rx2_2 rx2_3 rx2_4 rx2_5 rx2_6 rx2_7 rx2_8 rx2_9 rx2_10 rx2_11 rx2_12 rx2_13;go_wp2_with fail
     go_meet
     case rel=>exact⟨bU,bV,rfl,rfl,U.out,V.out,HW.o⟩
    skip
    have hK:=Hd hK0;clear hK0;go_wp2_with fail
    first|refine⟨rfl,?u,hK.o _ _ ?_⟩|refine⟨?u,hK.o _ _ ?_⟩
    case u=>exact⟨⟨_,⟨HW.o.alloc HW.o.size _,Nat.le_trans HW.o.size (by simp),by simp⟩,trivial⟩,rfl⟩
    clear hK K
    refine⟨fun K hK0=> ?_,fun K hK0=> ?_,trivial⟩
    ·skip
     have hK:=Hd hK0;clear hK0
     obtain⟨w63,hv⟩:∃X,X=w62.alloc (.cells #[.slice none 0 0,.slice none 0 0,.slice none 0 0,.slice none 0 0] 68):=⟨_,rfl⟩
     obtain⟨bV,hn⟩:∃n,n=w62.heap.size:=⟨_,rfl⟩
     rw[<-hv,<-hn];have hb:=al_b hv;have HGV:=Hd (al_g HW hn);replace HW:=Hd (below_via HW.o hb);have V:=Hd (al_r hv hn);clear hv hb hn;go_wp2_with fail
     with_reducible refine(zones S _).mono ?_
     rintro e w64 ⟨rfl,hb⟩;replace V:=Hd (V.out.below hb);replace HW:=Hd (below_via HW.o hb);clear hb;go_wp2_with fail
     first|refine⟨rfl,hK.o _ _ ?_⟩|refine hK.o _ _ ?_
     clear hK K
     refine⟨fun K hK0=> ?_,trivial⟩
     have hK:=Hd hK0;clear hK0;go_wp2_with fail
     first|refine⟨rfl,?u,hK.o _ _ ?_⟩|refine⟨?u,hK.o _ _ ?_⟩
     case u=>exact⟨⟨_,⟨HW.o.alloc HW.o.size _,Nat.le_trans HW.o.size (by simp),by simp⟩,trivial⟩,rfl⟩
     clear hK K
     refine⟨fun K hK0=> ?_,trivial⟩
     have hK:=Hd hK0;clear hK0
     obtain⟨w65,hv⟩:∃X,X=w64.alloc (.cells #[.slice none 0 0,.slice none 0 0,.slice none 0 0,.slice none 0 0] 68):=⟨_,rfl⟩
     obtain⟨bU,hn⟩:∃n,n=w64.heap.size:=⟨_,rfl⟩
     rw[<-hv,<-hn];have hb:=al_b hv;have HGU:=Hd (al_g HW hn);have HEUV:=Hd (al_n V.out hn);replace V:=Hd (V.out.below hb);replace HW:=Hd (below_via HW.o hb);have U:=Hd (al_r hv hn);clear hv hb hn;go_wp2_with (refine wpList_store_rx 68 rfl _ _ rfl rfl rfl U.out rfl rfl (by simp[Value.oneCell']) ?_)
     intro w66 hv;have ho:=st_o hv;replace U:=Hd (st_r U.out hv);replace V:=Hd (st_n V.out ho HEUV.o);replace HW:=Hd (st_w HW.o ho HGU.o);clear ho hv;go_wp2_with fail
     first|refine⟨rfl,hK.o _ _ ?_⟩|refine hK.o _ _ ?_
     clear hK K
     refine⟨fun K hK0=> ?_,trivial⟩
     have hK:=Hd hK0;clear hK0;go_wp2_with (refine wpList_store_rx 68 rfl _ _ rfl rfl rfl V.out rfl rfl (by simp[Value.oneCell']) ?_)
     intro w67 hv;have ho:=st_o hv;replace V:=Hd (st_r V.out hv);replace U:=Hd (st_n U.out ho HEUV.o.symm);replace HW:=Hd (st_w HW.o ho HGV.o);clear ho hv;go_wp2_with fail
     first|refine⟨rfl,hK.o _ _ ?_⟩|refine hK.o _ _ ?_
     clear hK K;clear _ne rx1_0 rx1_1 rx1_2 rx1_3 rx1_4 rx1_5 rx1_6 rx1_7 rx1_8 rx1_9 rx1_10 rx1_11 rx1_12 rx1_13 rx2_0 rx2_1 rx2_2 rx2_3 rx2_4 rx2_5 rx2_6 rx2_7 rx2_8 rx2_9 rx2_10 rx2_11 rx2_12 rx2_13;go_wp2_with fail
     go_meet
     case rel=>exact⟨bU,bV,rfl,rfl,U.out,V.out,HW.o⟩
    skip
    have hK:=Hd hK0;clear hK0
    obtain⟨w63,hv⟩:∃X,X=w62.alloc (.cells #[.slice none 0 0,.slice none 0 0,.slice none 0 0,.slice none 0 0] 68):=⟨_,rfl⟩
    obtain⟨bV,hn⟩:∃n,n=w62.heap.size:=⟨_,rfl⟩
    rw[<-hv,<-hn];have hb:=al_b hv;have HGV:=Hd (al_g HW hn);replace HW:=Hd (below_via HW.o hb);have V:=Hd (al_r hv hn);clear hv hb hn;go_wp2_with fail
    first|refine⟨rfl,?u,hK.o _ _ ?_⟩|refine⟨?u,hK.o _ _ ?_⟩
    case u=>exact⟨⟨_,⟨HW.o.alloc HW.o.size _,Nat.le_trans HW.o.size (by simp),by simp⟩,trivial⟩,rfl⟩
    clear hK K
    refine⟨fun K hK0=> ?_,trivial⟩
    have hK:=Hd hK0;clear hK0
    obtain⟨w64,hv⟩:∃X,X=w63.alloc (.cells #[.slice none 0 0,.slice none 0 0,.slice none 0 0,.slice none 0 0] 68):=⟨_,rfl⟩
    obtain⟨bU,hn⟩:∃n,n=w63.heap.size:=⟨_,rfl⟩
    rw[<-hv,<-hn];have hb:=al_b hv;have HGU:=Hd (al_g HW hn);have HEUV:=Hd (al_n V.out hn);replace V:=Hd (V.out.below hb);replace HW:=Hd (below_via HW.o hb);have U:=Hd (al_r hv hn);clear hv hb hn;go_wp2_with fail
    with_reducible refine(zones S _).mono ?_
    rintro e w65 ⟨rfl,hb⟩;replace V:=Hd (V.out.below hb);replace U:=Hd (U.out.below hb);replace HW:=Hd (below_via HW.o hb);clear hb;go_wp2_with fail
    first|refine⟨rfl,hK.o _ _ ?_⟩|refine hK.o _ _ ?_
    clear hK K
    refine⟨fun K hK0=> ?_,trivial⟩
    have hK:=Hd hK0;clear hK0;go_wp2_with (refine wpList_store_rx 68 rfl _ _ rfl rfl rfl U.out rfl rfl (by simp[Value.oneCell']) ?_)
    intro w66 hv;have ho:=st_o hv;replace U:=Hd (st_r U.out hv);replace V:=Hd (st_n V.out ho HEUV.o);replace HW:=Hd (st_w HW.o ho HGU.o);clear ho hv;go_wp2_with fail
    first|refine⟨rfl,hK.o _ _ ?_⟩|refine hK.o _ _ ?_
    clear hK K
    refine⟨fun K hK0=> ?_,trivial⟩
    have hK:=Hd hK0;clear hK0;go_wp2_with (refine wpList_store_rx 68 rfl _ _ rfl rfl rfl V.out rfl rfl (by simp[Value.oneCell']) ?_)
    intro w67 hv;have ho:=st_o hv;replace V:=Hd (st_r V.out hv);replace U:=Hd (st_n U.out ho HEUV.o.symm);replace HW:=Hd (st_w HW.o ho HGV.o);clear ho hv;go_wp2_with fail
    first|refine⟨rfl,hK.o _ _ ?_⟩|refine hK.o _ _ ?_
    clear hK K;clear _ne rx1_0 rx1_1 rx1_2 rx1_3 rx1_4 rx1_5 rx1_6 rx1_7 rx1_8 rx1_9 rx1_10 rx1_11 rx1_12 rx1_13 rx2_0 rx2_1 rx2_2 rx2_3 rx2_4 rx2_5 rx2_6 rx2_7 rx2_8 rx2_9 rx2_10 rx2_11 rx2_12 rx2_13;go_wp2_with fail
    go_meet
    case rel=>exact⟨bU,bV,rfl,rfl,U.out,V.out,HW.o⟩
   ·skip
    have hK:=Hd hK0;clear hK0;have HW:=Hd hw_w61;clear hw_w61 hz_w61 KH_w61;go_wp2_with fail
    first|refine⟨rfl,?u,hK.o _ _ ?_⟩|refine⟨?u,hK.o _ _ ?_⟩
    case u=>exact⟨⟨_,⟨HW.o.alloc HW.o.size _,Nat.le_trans HW.o.size (by simp),by simp⟩,trivial⟩,rfl⟩
    clear hK K
    refine⟨fun K hK0=> ?_,fun K hK0=> ?_,trivial⟩
    ·skip
     have hK:=Hd hK0;clear hK0
     obtain⟨w62,hv⟩:∃X,X=w61.alloc (.cells #[.slice none 0 0,.slice none 0 0,.slice none 0 0,.slice none 0 0] 68):=⟨_,rfl⟩
     obtain⟨bU,hn⟩:∃n,n=w61.heap.size:=⟨_,rfl⟩
     rw[<-hv,<-hn];have hb:=al_b hv;have HGU:=Hd (al_g HW hn);replace HW:=Hd (below_via HW.o hb);have U:=Hd (al_r hv hn);clear hv hb hn;go_wp2_with fail
     with_reducible refine(zones S _).mono ?_
     rintro e w63 ⟨rfl,hb⟩;replace U:=Hd (U.out.below hb);replace HW:=Hd (below_via HW.o hb);clear hb;go_wp2_with fail
     first|refine⟨rfl,?u,hK.o _ _ ?_⟩|refine⟨?u,hK.o _ _ ?_⟩
     case u=>exact⟨⟨_,⟨HW.o,HW.o.size,by simp⟩,trivial⟩,rfl⟩
     clear hK K
     refine⟨fun K hK0=> ?_,fun K hK0=> ?_,trivial⟩
     ·skip
      have hK:=Hd hK0;clear hK0;go_wp2_with fail
      with_reducible refine(zones S _).mono ?_
      rintro e w64 ⟨rfl,hb⟩;replace U:=Hd (U.out.below hb);replace HW:=Hd (below_via HW.o hb);clear hb;go_wp2_with fail
      first|refine⟨rfl,hK.o _ _ ?_⟩|refine hK.o _ _ ?_
      clear hK K
      refine⟨fun K hK0=> ?_,trivial⟩
      have hK:=Hd hK0;clear hK0;go_wp2_with fail
      first|refine⟨rfl,?u,hK.o _ _ ?_⟩|refine⟨?u,hK.o _ _ ?_⟩
      case u=>exact⟨⟨_,⟨HW.o.alloc HW.o.size _,Nat.le_trans HW.o.size (by simp),by simp⟩,trivial⟩,rfl⟩
      clear hK K
      refine⟨fun K hK0=> ?_,trivial⟩
      have hK:=Hd hK0;clear hK0
      obtain⟨w65,hv⟩:∃X,X=w64.alloc (.cells #[.slice none 0 0,.slice none 0 0,.slice none 0 0,.slice none 0 0] 68):=⟨_,rfl⟩
      obtain⟨bV,hn⟩:∃n,n=w64.heap.size:=⟨_,rfl⟩
      rw[<-hv,<-hn];have hb:=al_b hv;have HGV:=Hd (al_g HW hn);have HEVU:=Hd (al_n U.out hn);replace U:=Hd (U.out.below hb);replace HW:=Hd (below_via HW.o hb);have V:=Hd (al_r hv hn);clear hv hb hn;go_wp2_with (refine wpList_store_rx 68 rfl _ _ rfl rfl rfl U.out rfl rfl (by simp[Value.oneCell']) ?_)
      intro w66 hv;have ho:=st_o hv;replace U:=Hd (st_r U.out hv);replace V:=Hd (st_n V.out ho HEVU.o.symm);replace HW:=Hd (st_w HW.o ho HGU.o);clear ho hv;go_wp2_with fail
      first|refine⟨rfl,hK.o _ _ ?_⟩|refine hK.o _ _ ?_
      clear hK K
      refine⟨fun K hK0=> ?_,trivial⟩
      have hK:=Hd hK0;clear hK0;go_wp2_with (refine wpList_store_rx 68 rfl _ _ rfl rfl rfl V.out rfl rfl (by simp[Value.oneCell']) ?_)
      intro w67 hv;have ho:=st_o hv;replace V:=Hd (st_r V.out hv);replace U:=Hd (st_n U.out ho HEVU.o);replace HW:=Hd (st_w HW.o ho HGV.o);clear ho hv;go_wp2_with fail
      first|refine⟨rfl,hK.o _ _ ?_⟩|refine hK.o _ _ ?_
      clear hK K;clear _ne rx1_0 rx1_1 rx1_2 rx1_3 rx1_4 rx1_5 rx1_6 rx1_7 rx1_8 rx1_9 rx1_10 rx1_11 rx1_12 rx1_13 rx2_0 rx2_1 rx2_2 rx2_3 rx2_4 rx2_5 rx2_6 rx2_7 rx2_8 rx2_9 rx2_10 rx2_11 rx2_12 rx2_13;go_wp2_with fail
      go_meet
      case rel=>exact⟨bU,bV,rfl,rfl,U.out,V.out,HW.o⟩
     skip
     have hK:=Hd hK0;clear hK0;go_wp2_with fail
     first|refine⟨rfl,?u,hK.o _ _ ?_⟩|refine⟨?u,hK.o _ _ ?_⟩
     case u=>exact⟨⟨_,⟨HW.o.alloc HW.o.size _,Nat.le_trans HW.o.size (by simp),by simp⟩,trivial⟩,rfl⟩
     clear hK K
     refine⟨fun K hK0=> ?_,trivial⟩
     have hK:=Hd hK0;clear hK0
     obtain⟨w64,hv⟩:∃X,X=w63.alloc (.cells #[.slice none 0 0,.slice none 0 0,.slice none 0 0,.slice none 0 0] 68):=⟨_,rfl⟩
     obtain⟨bV,hn⟩:∃n,n=w63.heap.size:=⟨_,rfl⟩
     rw[<-hv,<-hn];have hb:=al_b hv;have HGV:=Hd (al_g HW hn);have HEVU:=Hd (al_n U.out hn);replace U:=Hd (U.out.below hb);replace HW:=Hd (below_via HW.o hb);have V:=Hd (al_r hv hn);clear hv hb hn;go_wp2_with fail
     with_reducible refine(zones S _).mono ?_
     rintro e w65 ⟨rfl,hb⟩;replace U:=Hd (U.out.below hb);replace V:=Hd (V.out.below hb);replace HW:=Hd (below_via HW.o hb);clear hb;go_wp2_with fail
     first|refine⟨rfl,hK.o _ _ ?_⟩|refine hK.o _ _ ?_
     clear hK K
     refine⟨fun K hK0=> ?_,trivial⟩
     have hK:=Hd hK0;clear hK0;go_wp2_with (refine wpList_store_rx 68 rfl _ _ rfl rfl rfl U.out rfl rfl (by simp[Value.oneCell']) ?_)
     intro w66 hv;have ho:=st_o hv;replace U:=Hd (st_r U.out hv);replace V:=Hd (st_n V.out ho HEVU.o.symm);replace HW:=Hd (st_w HW.o ho HGU.o);clear ho hv;go_wp2_with fail
     first|refine⟨rfl,hK.o _ _ ?_⟩|refine hK.o _ _ ?_
     clear hK K
     refine⟨fun K hK0=> ?_,trivial⟩
     have hK:=Hd hK0;clear hK0;go_wp2_with (refine wpList_store_rx 68 rfl _ _ rfl rfl rfl V.out rfl rfl (by simp[Value.oneCell']) ?_)
     intro w67 hv;have ho:=st_o hv;replace V:=Hd (st_r V.out hv);replace U:=Hd (st_n U.out ho HEVU.o);replace HW:=Hd (st_w HW.o ho HGV.o);clear ho hv;go_wp2_with fail
     first|refine⟨rfl,hK.o _ _ ?_⟩|refine hK.o _ _ ?_
     clear hK K;clear _ne rx1_0 rx1_1 rx1_2 rx1_3 rx1_4 rx1_5 rx1_6 rx1_7 rx1_8 rx1_9 rx1_10 rx1_11 rx1_12 rx1_13 rx2_0 rx2_1 rx2_2 rx2_3 rx2_4 rx2_5 rx2_6 rx2_7 rx2_8 rx2_9 rx2_10 rx2_11 rx2_12 rx2_13;go_wp2_with fail
     go_meet
     case rel=>exact⟨bU,bV,rfl,rfl,U.out,V.out,HW.o⟩
    skip
    have hK:=Hd hK0;clear hK0
    obtain⟨w62,hv⟩:∃X,X=w61.alloc (.cells #[.slice none 0 0,.slice none 0 0,.slice none 0 0,.slice none 0 0] 68):=⟨_,rfl⟩
    obtain⟨bU,hn⟩:∃n,n=w61.heap.size:=⟨_,rfl⟩
    rw[<-hv,<-hn];have hb:=al_b hv;have HGU:=Hd (al_g HW hn);replace HW:=Hd (below_via HW.o hb);have U:=Hd (al_r hv hn);clear hv hb hn;go_wp2_with fail
    first|refine⟨rfl,?u,hK.o _ _ ?_⟩|refine⟨?u,hK.o _ _ ?_⟩
    case u=>exact⟨⟨_,⟨HW.o.alloc HW.o.size _,Nat.le_trans HW.o.size (by simp),by simp⟩,trivial⟩,rfl⟩
    clear hK K
    refine⟨fun K hK0=> ?_,trivial⟩
    have hK:=Hd hK0;clear hK0
    obtain⟨w63,hv⟩:∃X,X=w62.alloc (.cells #[.slice none 0 0,.slice none 0 0,.slice none 0 0,.slice none 0 0] 68):=⟨_,rfl⟩
    obtain⟨bV,hn⟩:∃n,n=w62.heap.size:=⟨_,rfl⟩
    rw[<-hv,<-hn];have hb:=al_b hv;have HGV:=Hd (al_g HW hn);have HEVU:=Hd (al_n U.out hn);replace U:=Hd (U.out.below hb);replace HW:=Hd (below_via HW.o hb);have V:=Hd (al_r hv hn);clear hv hb hn;go_wp2_with fail
    with_reducible refine(zones S _).mono ?_
    rintro e w64 ⟨rfl,hb⟩;replace U:=Hd (U.out.below hb);replace V:=Hd (V.out.below hb);replace HW:=Hd (below_via HW.o hb);clear hb;go_wp2_with fail
    first|refine⟨rfl,?u,hK.o _ _ ?_⟩|refine⟨?u,hK.o _ _ ?_⟩
    case u=>exact⟨⟨_,⟨HW.o,HW.o.size,by simp⟩,trivial⟩,rfl⟩
    clear hK K
    refine⟨fun K hK0=> ?_,trivial⟩
    have hK:=Hd hK0;clear hK0;go_wp2_with fail
    with_reducible refine(zones S _).mono ?_
    rintro e w65 ⟨rfl,hb⟩;replace U:=Hd (U.out.below hb);replace V:=Hd (V.out.below hb);replace HW:=Hd (below_via HW.o hb);clear hb;go_wp2_with fail
    first|refine⟨rfl,hK.o _ _ ?_⟩|refine hK.o _ _ ?_
    clear hK K
    refine⟨fun K hK0=> ?_,trivial⟩
    have hK:=Hd hK0;clear hK0;go_wp2_with (refine wpList_store_rx 68 rfl _ _ rfl rfl rfl U.out rfl rfl (by simp[Value.oneCell']) ?_)
    intro w66 hv;have ho:=st_o hv;replace U:=Hd (st_r U.out hv);replace V:=Hd (st_n V.out ho HEVU.o.symm);replace HW:=Hd (st_w HW.o ho HGU.o);clear ho hv;go_wp2_with fail
    first|refine⟨rfl,hK.o _ _ ?_⟩|refine hK.o _ _ ?_
    clear hK K
    refine⟨fun K hK0=> ?_,trivial⟩
    have hK:=Hd hK0;clear hK0;go_wp2_with (refine wpList_store_rx 68 rfl _ _ rfl rfl rfl V.out rfl rfl (by simp[Value.oneCell']) ?_)
    intro w67 hv;have ho:=st_o hv;replace V:=Hd (st_r V.out hv);replace U:=Hd (st_n U.out ho HEVU.o);replace HW:=Hd (st_w HW.o ho HGV.o);clear ho hv;go_wp2_with fail
    first|refine⟨rfl,hK.o _ _ ?_⟩|refine hK.o _ _ ?_
    clear hK K;clear _ne rx1_0 rx1_1 rx1_2 rx1_3 rx1_4 rx1_5 rx1_6 rx1_7 rx1_8 rx1_9 rx1_10 rx1_11 rx1_12 rx1_13 rx2_0 rx2_1 rx2_2 rx2_3 rx2_4 rx2_5 rx2_6 rx2_7 rx2_8 rx2_9 rx2_10 rx2_11 rx2_12 rx2_13;go_wp2_with fail
    go_meet
    case rel=>exact⟨bU,bV,rfl,rfl,U.out,V.out,HW.o⟩
   skip
   have hK:=Hd hK0;clear hK0;have HW:=Hd hw_w61;clear hw_w61 hz_w61 KH_w61;go_wp2_with fail
   first|refine⟨rfl,?u,hK.o _ _ ?_⟩|refine⟨?u,hK.o _ _ ?_⟩
   case u=>exact⟨⟨_,⟨HW.o.alloc HW.o.size _,Nat.le_trans HW.o.size (by simp),by simp⟩,trivial⟩,rfl⟩
   clear hK K
   refine⟨fun K hK0=> ?_,fun K hK0=> ?_,trivial⟩
   ·skip
    have hK:=Hd hK0;clear hK0
    obtain⟨w62,hv⟩:∃X,X=w61.alloc (.cells #[.slice none 0 0,.slice none 0 0,.slice none 0 0,.slice none 0 0] 68):=⟨_,rfl⟩
    obtain⟨bV,hn⟩:∃n,n=w61.heap.size:=⟨_,rfl⟩
    rw[<-hv,<-hn];have hb:=al_b hv;have HGV:=Hd (al_g HW hn);replace HW:=Hd (below_via HW.o hb);have V:=Hd (al_r hv hn);clear hv hb hn;go_wp2_with fail
    with_reducible refine(zones S _).mono ?_
    rintro e w63 ⟨rfl,hb⟩;replace V:=Hd (V.out.below hb);replace HW:=Hd (below_via HW.o hb);clear hb;go_wp2_with fail
    first|refine⟨rfl,?u,hK.o _ _ ?_⟩|refine⟨?u,hK.o _ _ ?_⟩
    case u=>exact⟨⟨_,⟨HW.o,HW.o.size,by simp⟩,trivial⟩,rfl⟩
    clear hK K
    refine⟨fun K hK0=> ?_,fun K hK0=> ?_,trivial⟩
    ·skip
     have hK:=Hd hK0;clear hK0;go_wp2_with fail
     with_reducible refine(zones S _).mono ?_
     rintro e w64 ⟨rfl,hb⟩;replace V:=Hd (V.out.below hb);replace HW:=Hd (below_via HW.o hb);clear hb;go_wp2_with fail
     first|refine⟨rfl,hK.o _ _ ?_⟩|refine hK.o _ _ ?_
     clear hK K
     refine⟨fun K hK0=> ?_,trivial⟩
     have hK:=Hd hK0;clear hK0;go_wp2_with fail
     first|refine⟨rfl,?u,hK.o _ _ ?_⟩|refine⟨?u,hK.o _ _ ?_⟩
     case u=>exact⟨⟨_,⟨HW.o.alloc HW.o.size _,Nat.le_trans HW.o.size (by simp),by simp⟩,trivial⟩,rfl⟩
     clear hK K
     refine⟨fun K hK0=> ?_,trivial⟩
     have hK:=Hd hK0;clear hK0
     obtain⟨w65,hv⟩:∃X,X=w64.alloc (.cells #[.slice none 0 0,.slice none 0 0,.slice none 0 0,.slice none 0 0] 68):=⟨_,rfl⟩
     obtain⟨bU,hn⟩:∃n,n=w64.heap.size:=⟨_,rfl⟩
     rw[<-hv,<-hn];have hb:=al_b hv;have HGU:=Hd (al_g HW hn);have HEUV:=Hd (al_n V.out hn);replace V:=Hd (V.out.below hb);replace HW:=Hd (below_via HW.o hb);have U:=Hd (al_r hv hn);clear hv hb hn;go_wp2_with (refine wpList_store_rx 68 rfl _ _ rfl rfl rfl U.out rfl rfl (by simp[Value.oneCell']) ?_)
     intro w66 hv;have ho:=st_o hv;replace U:=Hd (st_r U.out hv);replace V:=Hd (st_n V.out ho HEUV.o);replace HW:=Hd (st_w HW.o ho HGU.o);clear ho hv;go_wp2_with fail
     first|refine⟨rfl,hK.o _ _ ?_⟩|refine hK.o _ _ ?_
     clear hK K
     refine⟨fun K hK0=> ?_,trivial⟩
     have hK:=Hd hK0;clear hK0;go_wp2_with (refine wpList_store_rx 68 rfl _ _ rfl rfl rfl V.out rfl rfl (by simp[Value.oneCell']) ?_)
     intro w67 hv;have ho:=st_o hv;replace V:=Hd (st_r V.out hv);replace U:=Hd (st_n U.out ho HEUV.o.symm);replace HW:=Hd (st_w HW.o ho HGV.o);clear ho hv;go_wp2_with fail
     first|refine⟨rfl,hK.o _ _ ?_⟩|refine hK.o _ _ ?_
     clear hK K;clear _ne rx1_0 rx1_1 rx1_2 rx1_3 rx1_4 rx1_5 rx1_6 rx1_7 rx1_8 rx1_9 rx1_10 rx1_11 rx1_12 rx1_13 rx2_0 rx2_1 rx2_2 rx2_3 rx2_4 rx2_5 rx2_6 rx2_7 rx2_8 rx2_9 rx2_10 rx2_11 rx2_12 rx2_13;go_wp2_with fail
     go_meet
     case rel=>exact⟨bU,bV,rfl,rfl,U.out,V.out,HW.o⟩
    skip
    have hK:=Hd hK0;clear hK0;go_wp2_with fail
    first|refine⟨rfl,?u,hK.o _ _ ?_⟩|refine⟨?u,hK.o _ _ ?_⟩
    case u=>exact⟨⟨_,⟨HW.o.alloc HW.o.size _,Nat.le_trans HW.o.size (by simp),by simp⟩,trivial⟩,rfl⟩
    clear hK K
    refine⟨fun K hK0=> ?_,trivial⟩
    have hK:=Hd hK0;clear hK0
    obtain⟨w64,hv⟩:∃X,X=w63.alloc (.cells #[.slice none 0 0,.slice none 0 0,.slice none 0 0,.slice none 0 0] 68):=⟨_,rfl⟩
    obtain⟨bU,hn⟩:∃n,n=w63.heap.size:=⟨_,rfl⟩
    rw[<-hv,<-hn];have hb:=al_b hv;have HGU:=Hd (al_g HW hn);have HEUV:=Hd (al_n V.out hn);replace V:=Hd (V.out.below hb);replace HW:=Hd (below_via HW.o hb);have U:=Hd (al_r hv hn);clear hv hb hn;go_wp2_with fail
    with_reducible refine(zones S _).mono ?_
    rintro e w65 ⟨rfl,hb⟩;replace V:=Hd (V.out.below hb);replace U:=Hd (U.out.below hb);replace HW:=Hd (below_via HW.o hb);clear hb;go_wp2_with fail
    first|refine⟨rfl,hK.o _ _ ?_⟩|refine hK.o _ _ ?_
    clear hK K
    refine⟨fun K hK0=> ?_,trivial⟩
    have hK:=Hd hK0;clear hK0;go_wp2_with (refine wpList_store_rx 68 rfl _ _ rfl rfl rfl U.out rfl rfl (by simp[Value.oneCell']) ?_)
    intro w66 hv;have ho:=st_o hv;replace U:=Hd (st_r U.out hv);replace V:=Hd (st_n V.out ho HEUV.o);replace HW:=Hd (st_w HW.o ho HGU.o);clear ho hv;go_wp2_with fail
    first|refine⟨rfl,hK.o _ _ ?_⟩|refine hK.o _ _ ?_
    clear hK K
    refine⟨fun K hK0=> ?_,trivial⟩
    have hK:=Hd hK0;clear hK0;go_wp2_with (refine wpList_store_rx 68 rfl _ _ rfl rfl rfl V.out rfl rfl (by simp[Value.oneCell']) ?_)
    intro w67 hv;have ho:=st_o hv;replace V:=Hd (st_r V.out hv);replace U:=Hd (st_n U.out ho HEUV.o.symm);replace HW:=Hd (st_w HW.o ho HGV.o);clear ho hv;go_wp2_with fail
    first|refine⟨rfl,hK.o _ _ ?_⟩|refine hK.o _ _ ?_
    clear hK K;clear _ne rx1_0 rx1_1 rx1_2 rx1_3 rx1_4 rx1_5 rx1_6 rx1_7 rx1_8 rx1_9 rx1_10 rx1_11 rx1_12 rx1_13 rx2_0 rx2_1 rx2_2 rx2_3 rx2_4 rx2_5 rx2_6 rx2_7 rx2_8 rx2_9 rx2_10 rx2_11 rx2_12 rx2_13;go_wp2_with fail
    go_meet
    case rel=>exact⟨bU,bV,rfl,rfl,U.out,V.out,HW.o⟩
   skip
   have hK:=Hd hK0;clear hK0
   obtain⟨w62,hv⟩:∃X,X=w61.alloc (.cells #[.slice none 0 0,.slice none 0 0,.slice none 0 0,.slice none 0 0] 68):=⟨_,rfl⟩
   obtain⟨bV,hn⟩:∃n,n=w61.heap.size:=⟨_,rfl⟩
   rw[<-hv,<-hn];have hb:=al_b hv;have HGV:=Hd (al_g HW hn);replace HW:=Hd (below_via HW.o hb);have V:=Hd (al_r hv hn);clear hv hb hn;go_wp2_with fail
   first|refine⟨rfl,?u,hK.o _ _ ?_⟩|refine⟨?u,hK.o _ _ ?_⟩
   case u=>exact⟨⟨_,⟨HW.o.alloc HW.o.size _,Nat.le_trans HW.o.size (by simp),by simp⟩,trivial⟩,rfl⟩
   clear hK K
   refine⟨fun K hK0=> ?_,trivial⟩
   have hK:=Hd hK0;clear hK0
   obtain⟨w63,hv⟩:∃X,X=w62.alloc (.cells #[.slice none 0 0,.slice none 0 0,.slice none 0 0,.slice none 0 0] 68):=⟨_,rfl⟩
   obtain⟨bU,hn⟩:∃n,n=w62.heap.size:=⟨_,rfl⟩
   rw[<-hv,<-hn];have hb:=al_b hv;have HGU:=Hd (al_g HW hn);have HEUV:=Hd (al_n V.out hn);replace V:=Hd (V.out.below hb);replace HW:=Hd (below_via HW.o hb);have U:=Hd (al_r hv hn);clear hv hb hn;go_wp2_with fail
   with_reducible refine(zones S _).mono ?_
   rintro e w64 ⟨rfl,hb⟩;replace V:=Hd (V.out.below hb);replace U:=Hd (U.out.below hb);replace HW:=Hd (below_via HW.o hb);clear hb;go_wp2_with fail
   first|refine⟨rfl,?u,hK.o _ _ ?_⟩|refine⟨?u,hK.o _ _ ?_⟩
   case u=>exact⟨⟨_,⟨HW.o,HW.o.size,by simp⟩,trivial⟩,rfl⟩
   clear hK K
   refine⟨fun K hK0=> ?_,trivial⟩
   have hK:=Hd hK0;clear hK0;go_wp2_with fail
   with_reducible refine(zones S _).mono ?_
   rintro e w65 ⟨rfl,hb⟩;replace V:=Hd (V.out.below hb);replace U:=Hd (U.out.below hb);replace HW:=Hd (below_via HW.o hb);clear hb;go_wp2_with fail
   first|refine⟨rfl,hK.o _ _ ?_⟩|refine hK.o _ _ ?_
   clear hK K
   refine⟨fun K hK0=> ?_,trivial⟩
   have hK:=Hd hK0;clear hK0;go_wp2_with (refine wpList_store_rx 68 rfl _ _ rfl rfl rfl U.out rfl rfl (by simp[Value.oneCell']) ?_)
   intro w66 hv;have ho:=st_o hv;replace U:=Hd (st_r U.out hv);replace V:=Hd (st_n V.out ho HEUV.o);replace HW:=Hd (st_w HW.o ho HGU.o);clear ho hv;go_wp2_with fail
   first|refine⟨rfl,hK.o _ _ ?_⟩|refine hK.o _ _ ?_
   clear hK K
   refine⟨fun K hK0=> ?_,trivial⟩
   have hK:=Hd hK0;clear hK0;go_wp2_with (refine wpList_store_rx 68 rfl _ _ rfl rfl rfl V.out rfl rfl (by simp[Value.oneCell']) ?_)
   intro w67 hv;have ho:=st_o hv;replace V:=Hd (st_r V.out hv);replace U:=Hd (st_n U.out ho HEUV.o.symm);replace HW:=Hd (st_w HW.o ho HGV.o);clear ho hv;go_wp2_with fail
   first|refine⟨rfl,hK.o _ _ ?_⟩|refine hK.o _ _ ?_
   clear hK K;clear _ne rx1_0 rx1_1 rx1_2 rx1_3 rx1_4 rx1_5 rx1_6 rx1_7 rx1_8 rx1_9 rx1_10 rx1_11 rx1_12 rx1_13 rx2_0 rx2_1 rx2_2 rx2_3 rx2_4 rx2_5 rx2_6 rx2_7 rx2_8 rx2_9 rx2_10 rx2_11 rx2_12 rx2_13;go_wp2_with fail
   go_meet
   case rel=>exact⟨bU,bV,rfl,rfl,U.out,V.out,HW.o⟩
  obtain⟨bU,bV,rfl,rfl,hU,hV,hW⟩:=hcut
  replace HB:=Hd (below_via HB.o hW);replace HX1:=Hd (HX1.o.below hW);replace HX2:=Hd (HX2.o.below hW);have HU:=Hd hU;have HV:=Hd hV;clear x1_0 x1_1 x1_2 x1_3 x1_4 x1_5 x1_6 x1_7 x1_8 x1_9 x1_10 x1_11 x1_12 x1_13 x2_0 x2_1 x2_2 x2_3 x2_4 x2_5 x2_6 x2_7 x2_8 x2_9 x2_10 x2_11 x2_12 x2_13 px1 px2 hU hV hW;go_wp2_with fail
  go_loopw [12] (fun v wr=>RsZ w s1 s2 B bU bV #[.slice l1a l1n l1c,.slice h1a h1n h1c,.slice f1a f1n f1c,.slice g1a g1n g1c] #[.slice l2a l2n l2c,.slice h2a h2n h2c,.slice f2a f2n f2c,.slice g2a g2n g2c] v wr) (fun v _=>4-(intOf v).toNat)
  case atStart=>exact⟨0,by omega,rfl,HB.o,HX1.o,HX2.o,HU.o,HV.o⟩
  obtain⟨z,hz,rfl,hb,hx1,hx2,hU,hV⟩:=hrel
  replace HB:=Hd hb;replace HX1:=Hd hx1;replace HX2:=Hd hx2;replace HU:=Hd hU;replace HV:=Hd hV;have pu:=hU.lt;have pv:=hV.lt;clear hb hx1 hx2
  by_cases hz4:z<4
  ·obtain⟨⟨za,zn,zc⟩,hze⟩:∃q,s1.zl p z=q:=⟨_,rfl⟩
   obtain⟨⟨ya,yn,yc⟩,hye⟩:∃q,s2.zl p z=q:=⟨_,rfl⟩
   have HZA:Hid (Rw ic 1 w (.slice za zn zc) ((B.seat p).zs z)):=Hd (by have h:=HZ1.o p z;rw[hze] at h;exact h);have HYA:Hid (Rw ic 1 w (.slice ya yn yc) ((B.seat p).zs z)):=Hd (by have h:=HZ2.o p z;rw[hye] at h;exact h)
   have hu:wr.cell? ⟨bU,z,none⟩=some (.slice za zn zc):=by
    have h:=hU.cell z
    obtain⟨h0,h1,h2,h3,_⟩:=HE.o
    have:z=0\/z=1\/z=2\/z=3:=by omega
    rcases this with rfl|rfl|rfl|rfl
    ·rw[h0] at hze;cases hze;exact h
    ·rw[h1] at hze;cases hze;exact h
    ·rw[h2] at hze;cases hze;exact h
    rw[h3] at hze;cases hze;exact h
   have hv:wr.cell? ⟨bV,z,none⟩=some (.slice ya yn yc):=by
    have h:=hV.cell z
    obtain⟨_,_,_,_,h0,h1,h2,h3⟩:=HE.o
    have:z=0\/z=1\/z=2\/z=3:=by omega
    rcases this with rfl|rfl|rfl|rfl
    ·rw[h0] at hye;cases hye;exact h
    ·rw[h1] at hye;cases hye;exact h
    ·rw[h2] at hye;cases hye;exact h
    rw[h3] at hye;cases hye;exact h
   have j1:(0:Int)<=(z:Int):=by omega
   have j2:(z:Int)<4:=by omega
   clear hze hye hU hV
   go_upto_region 23 with fail
   refine rg13_23 (w0:=wr) (B:=wr.heap.size) (n:=wr.heap.size) (L:=[]) (by kernel_rfl) rfl (by kernel_rfl) (.t ⟨by go_grown,by go_size,(by simp[go_sem]<;>omega)⟩) (fun w81 K_w81 E_w81 F_w81=> ?_);have _ne:Nonempty (KX (wr.heap.size) wr (wr.heap.size) [] (fun _=>True)):=⟨⟨_,K_w81,E_w81⟩⟩
   repeat (go_big_quiet_step (fail))
   refine wpQuiet_nil ?_;have ru:=rck _ne hu pu;have rv:=rck _ne hv pv
   repeat (go_big_quiet_step (fail))
   refine wpQuiet_nil ?_;have KH_w81:=Hd K_w81;have hw_w81:=K_w81.below;have hz_w81:=K_w81.size;clear K_w81;clear E_w81 F_w81
   refine⟨fun K hK0=> ?_,trivial⟩
   have hK:=Hd hK0;clear hK0;replace HB:=Hd (below_via HB.o hw_w81);replace HU:=Hd (HU.o.below hw_w81);replace HV:=Hd (HV.o.below hw_w81);replace HX1:=Hd (HX1.o.below hw_w81);replace HX2:=Hd (HX2.o.below hw_w81);clear hw_w81 hz_w81 KH_w81;go_wp2_with fail
   with_reducible refine(rints _ _ _ _ (HZA.o.below HB.o) (HYA.o.below HB.o)).mono ?_
   rintro e w82 ⟨rfl,hb⟩;replace HB:=Hd (below_via HB.o hb);replace HU:=Hd (HU.o.below hb);replace HV:=Hd (HV.o.below hb);replace HX1:=Hd (HX1.o.below hb);replace HX2:=Hd (HX2.o.below hb);clear hb;go_wp2_with fail
   first|refine⟨rfl,hK.o _ _ ?_⟩|refine hK.o _ _ ?_
   clear hK K
   repeat (go_big_quiet_step (fail))
   refine wpQuiet_nil ?_;clear ru rv;clear _ne;go_wp2_with fail
   go_roundw
   case rel=>exact⟨z+1,by omega,by go_num,HB.o,HX1.o,HX2.o,HU.o,HV.o⟩
   case measure=>simp[intOf];omega
  clear hU hV pu pv;go_wp2_with fail
  go_roundw
  case rel=>exact⟨p+1,by omega,by go_num,HB.o,HX1.o,HX2.o⟩
  case measure=>simp[intOf];omega
 clear hb hx1 hx2;go_wp2_with fail
 exact bodyPost_ret (v:= .bool true) (by simp[results,Tryz.results13,go_sem]) rfl ⟨rfl,HB.o⟩
end Go.Proofs.YtpbepnpnpopmfaaGreat
