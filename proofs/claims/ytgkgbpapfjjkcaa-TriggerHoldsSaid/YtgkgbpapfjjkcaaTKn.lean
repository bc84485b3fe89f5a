/- The law's known examples. -/
import Derived.Test.YtgkgbpapfjjkcaaTGv
import Derived.Test.YtgkgbpapfjjkcaaTCo
import Derived.Test.YtgkgbpapfjjkcaaTDr
import Derived.Test.YtgkgbpapfjjkcaaTPu
import Derived.Test.YtgkgbpapfjjkcaaTOr
import Derived.Test.YtgkgbpapfjjkcaaTWo
import Derived.Deep.DeepCutAuto
import Derived.LoopTactic
import Derived.Deep.MidRow
namespace Go.Proofs.Ytgkgbpapfjjkcaa
open Go.RowKit Plain
set_option linter.unusedVariables false
set_option linter.unusedSimpArgs false

theorem rg10_4{P:Program}{B n:Nat}{w0:World}{L:List (Nat×Nat×Value)}{E F:World→Prop}{id:Nat}{Q:Exit→Act→World→Prop}{a:Act}{w:World}{A:Array Oper}{o0 o1 o2 o3 o4 o5 o6 o7 o8 o9 o10 o11 o12 o13 o14:Oper}(hm:P.follows .mixedOrders=true)(hA:A=[o0,o1,o2,o3,o4,o5,o6,o7,o8,o9,o10,o11,o12,o13,o14].toArray)(hB:regOk A [4] [7,8,9,10,13,14] (.rs [4] (.alt 0 (.alt 1 (.alt 2 (.alt 3 (.altc 5 (.altc 6 (.fs [7,8,9,10] (.alt 11 (.altc 12 (.fs [13,14] .done) .stop) .stop)) (.alt 11 (.altc 6 (.fs [7,8,9,10] (.altc 12 (.fs [13,14] .done) .stop)) .stop) .stop)) (.alt 11 (.altc 5 (.altc 6 (.fs [7,8,9,10] (.altc 12 (.fs [13,14] .done) .stop)) .stop) .stop) .stop)) (.alt 11 (.alt 3 (.altc 5 (.altc 6 (.fs [7,8,9,10] (.altc 12 (.fs [13,14] .done) .stop)) .stop) .stop) .stop) .stop)) (.alt 11 (.alt 2 (.alt 3 (.altc 5 (.altc 6 (.fs [7,8,9,10] (.altc 12 (.fs [13,14] .done) .stop)) .stop) .stop) .stop) .stop) .stop)) (.alt 11 (.alt 1 (.alt 2 (.alt 3 (.altc 5 (.altc 6 (.fs [7,8,9,10] (.altc 12 (.fs [13,14] .done) .stop)) .stop) .stop) .stop) .stop) .stop) .stop)) (.alt 11 (.alt 0 (.alt 1 (.alt 2 (.alt 3 (.altc 5 (.altc 6 (.fs [7,8,9,10] (.altc 12 (.fs [13,14] .done) .stop)) .stop) .stop) .stop) .stop) .stop) .stop) .stop)))=true)(c:RC B w0 n L E F w)
  (h:∀wk,Kept B w0 n L wk→E wk→F wk→wpQuiet P A (fun w' =>∃s:KX B w0 n L E,w' =s.val) (fun a0=>((∀K1:Act→World→Prop,(∀a1 w1,((∀K2:Act→World→Prop,(∀a2 w2,((∀K3:Act→World→Prop,(∀a3 w3,((∀K4:Act→World→Prop,(∀a4 w4,((∀K5:Act→World→Prop,(∀a5 w5,((∀K6:Act→World→Prop,(∀a6 w6,wpQuiet P A (fun _=>True) (fun a7=>((∀K8:Act→World→Prop,(∀a8 w8,((∀K9:Act→World→Prop,(∀a9 w9,wpQuiet P A (fun _=>True) (fun a10=>Q .normal a10 w9) [o13,o14] a9→K9 a9 w9)→wpList P A (fun e a9 w9=>e= .normal∧K9 a9 w9) [o12] a8 w8)∧True)→K8 a8 w8)→wpList P A (fun e a8 w8=>e= .normal∧(∃s:KX B w0 n L E,w8=s.val)∧K8 a8 w8) [o11] a7 w6)∧True)) [o7,o8,o9,o10] a6→K6 a6 w6)→wpList P A (fun e a6 w6=>e= .normal∧K6 a6 w6) [o6] a5 w5)∧(∀K6:Act→World→Prop,(∀a6 w6,((∀K7:Act→World→Prop,(∀a7 w7,wpQuiet P A (fun _=>True) (fun a8=>((∀K9:Act→World→Prop,(∀a9 w9,wpQuiet P A (fun _=>True) (fun a10=>Q .normal a10 w9) [o13,o14] a9→K9 a9 w9)→wpList P A (fun e a9 w9=>e= .normal∧K9 a9 w9) [o12] a8 w7)∧True)) [o7,o8,o9,o10] a7→K7 a7 w7)→wpList P A (fun e a7 w7=>e= .normal∧K7 a7 w7) [o6] a6 w6)∧True)→K6 a6 w6)→wpList P A (fun e a6 w6=>e= .normal∧(∃s:KX B w0 n L E,w6=s.val)∧K6 a6 w6) [o11] a5 w5)∧True)→K5 a5 w5)→wpList P A (fun e a5 w5=>e= .normal∧K5 a5 w5) [o5] a4 w4)∧(∀K5:Act→World→Prop,(∀a5 w5,((∀K6:Act→World→Prop,(∀a6 w6,((∀K7:Act→World→Prop,(∀a7 w7,wpQuiet P A (fun _=>True) (fun a8=>((∀K9:Act→World→Prop,(∀a9 w9,wpQuiet P A (fun _=>True) (fun a10=>Q .normal a10 w9) [o13,o14] a9→K9 a9 w9)→wpList P A (fun e a9 w9=>e= .normal∧K9 a9 w9) [o12] a8 w7)∧True)) [o7,o8,o9,o10] a7→K7 a7 w7)→wpList P A (fun e a7 w7=>e= .normal∧K7 a7 w7) [o6] a6 w6)∧True)→K6 a6 w6)→wpList P A (fun e a6 w6=>e= .normal∧K6 a6 w6) [o5] a5 w5)∧True)→K5 a5 w5)→wpList P A (fun e a5 w5=>e= .normal∧(∃s:KX B w0 n L E,w5=s.val)∧K5 a5 w5) [o11] a4 w4)∧True)→K4 a4 w4)→wpList P A (fun e a4 w4=>e= .normal∧(∃s:KX B w0 n L E,w4=s.val)∧K4 a4 w4) [o3] a3 w3)∧(∀K4:Act→World→Prop,(∀a4 w4,((∀K5:Act→World→Prop,(∀a5 w5,((∀K6:Act→World→Prop,(∀a6 w6,((∀K7:Act→World→Prop,(∀a7 w7,wpQuiet P A (fun _=>True) (fun a8=>((∀K9:Act→World→Prop,(∀a9 w9,wpQuiet P A (fun _=>True) (fun a10=>Q .normal a10 w9) [o13,o14] a9→K9 a9 w9)→wpList P A (fun e a9 w9=>e= .normal∧K9 a9 w9) [o12] a8 w7)∧True)) [o7,o8,o9,o10] a7→K7 a7 w7)→wpList P A (fun e a7 w7=>e= .normal∧K7 a7 w7) [o6] a6 w6)∧True)→K6 a6 w6)→wpList P A (fun e a6 w6=>e= .normal∧K6 a6 w6) [o5] a5 w5)∧True)→K5 a5 w5)→wpList P A (fun e a5 w5=>e= .normal∧(∃s:KX B w0 n L E,w5=s.val)∧K5 a5 w5) [o3] a4 w4)∧True)→K4 a4 w4)→wpList P A (fun e a4 w4=>e= .normal∧(∃s:KX B w0 n L E,w4=s.val)∧K4 a4 w4) [o11] a3 w3)∧True)→K3 a3 w3)→wpList P A (fun e a3 w3=>e= .normal∧(∃s:KX B w0 n L E,w3=s.val)∧K3 a3 w3) [o2] a2 w2)∧(∀K3:Act→World→Prop,(∀a3 w3,((∀K4:Act→World→Prop,(∀a4 w4,((∀K5:Act→World→Prop,(∀a5 w5,((∀K6:Act→World→Prop,(∀a6 w6,((∀K7:Act→World→Prop,(∀a7 w7,wpQuiet P A (fun _=>True) (fun a8=>((∀K9:Act→World→Prop,(∀a9 w9,wpQuiet P A (fun _=>True) (fun a10=>Q .normal a10 w9) [o13,o14] a9→K9 a9 w9)→wpList P A (fun e a9 w9=>e= .normal∧K9 a9 w9) [o12] a8 w7)∧True)) [o7,o8,o9,o10] a7→K7 a7 w7)→wpList P A (fun e a7 w7=>e= .normal∧K7 a7 w7) [o6] a6 w6)∧True)→K6 a6 w6)→wpList P A (fun e a6 w6=>e= .normal∧K6 a6 w6) [o5] a5 w5)∧True)→K5 a5 w5)→wpList P A (fun e a5 w5=>e= .normal∧(∃s:KX B w0 n L E,w5=s.val)∧K5 a5 w5) [o3] a4 w4)∧True)→K4 a4 w4)→wpList P A (fun e a4 w4=>e= .normal∧(∃s:KX B w0 n L E,w4=s.val)∧K4 a4 w4) [o2] a3 w3)∧True)→K3 a3 w3)→wpList P A (fun e a3 w3=>e= .normal∧(∃s:KX B w0 n L E,w3=s.val)∧K3 a3 w3) [o11] a2 w2)∧True)→K2 a2 w2)→wpList P A (fun e a2 w2=>e= .normal∧(∃s:KX B w0 n L E,w2=s.val)∧K2 a2 w2) [o1] a1 w1)∧(∀K2:Act→World→Prop,(∀a2 w2,((∀K3:Act→World→Prop,(∀a3 w3,((∀K4:Act→World→Prop,(∀a4 w4,((∀K5:Act→World→Prop,(∀a5 w5,((∀K6:Act→World→Prop,(∀a6 w6,((∀K7:Act→World→Prop,(∀a7 w7,wpQuiet P A (fun _=>True) (fun a8=>((∀K9:Act→World→Prop,(∀a9 w9,wpQuiet P A (fun _=>True) (fun a10=>Q .normal a10 w9) [o13,o14] a9→K9 a9 w9)→wpList P A (fun e a9 w9=>e= .normal∧K9 a9 w9) [o12] a8 w7)∧True)) [o7,o8,o9,o10] a7→K7 a7 w7)→wpList P A (fun e a7 w7=>e= .normal∧K7 a7 w7) [o6] a6 w6)∧True)→K6 a6 w6)→wpList P A (fun e a6 w6=>e= .normal∧K6 a6 w6) [o5] a5 w5)∧True)→K5 a5 w5)→wpList P A (fun e a5 w5=>e= .normal∧(∃s:KX B w0 n L E,w5=s.val)∧K5 a5 w5) [o3] a4 w4)∧True)→K4 a4 w4)→wpList P A (fun e a4 w4=>e= .normal∧(∃s:KX B w0 n L E,w4=s.val)∧K4 a4 w4) [o2] a3 w3)∧True)→K3 a3 w3)→wpList P A (fun e a3 w3=>e= .normal∧(∃s:KX B w0 n L E,w3=s.val)∧K3 a3 w3) [o1] a2 w2)∧True)→K2 a2 w2)→wpList P A (fun e a2 w2=>e= .normal∧(∃s:KX B w0 n L E,w2=s.val)∧K2 a2 w2) [o11] a1 w1)∧True)→K1 a1 w1)→wpList P A (fun e a1 w1=>e= .normal∧(∃s:KX B w0 n L E,w1=s.val)∧K1 a1 w1) [o0] a0 wk)∧(∀K1:Act→World→Prop,(∀a1 w1,((∀K2:Act→World→Prop,(∀a2 w2,((∀K3:Act→World→Prop,(∀a3 w3,((∀K4:Act→World→Prop,(∀a4 w4,((∀K5:Act→World→Prop,(∀a5 w5,((∀K6:Act→World→Prop,(∀a6 w6,((∀K7:Act→World→Prop,(∀a7 w7,wpQuiet P A (fun _=>True) (fun a8=>((∀K9:Act→World→Prop,(∀a9 w9,wpQuiet P A (fun _=>True) (fun a10=>Q .normal a10 w9) [o13,o14] a9→K9 a9 w9)→wpList P A (fun e a9 w9=>e= .normal∧K9 a9 w9) [o12] a8 w7)∧True)) [o7,o8,o9,o10] a7→K7 a7 w7)→wpList P A (fun e a7 w7=>e= .normal∧K7 a7 w7) [o6] a6 w6)∧True)→K6 a6 w6)→wpList P A (fun e a6 w6=>e= .normal∧K6 a6 w6) [o5] a5 w5)∧True)→K5 a5 w5)→wpList P A (fun e a5 w5=>e= .normal∧(∃s:KX B w0 n L E,w5=s.val)∧K5 a5 w5) [o3] a4 w4)∧True)→K4 a4 w4)→wpList P A (fun e a4 w4=>e= .normal∧(∃s:KX B w0 n L E,w4=s.val)∧K4 a4 w4) [o2] a3 w3)∧True)→K3 a3 w3)→wpList P A (fun e a3 w3=>e= .normal∧(∃s:KX B w0 n L E,w3=s.val)∧K3 a3 w3) [o1] a2 w2)∧True)→K2 a2 w2)→wpList P A (fun e a2 w2=>e= .normal∧(∃s:KX B w0 n L E,w2=s.val)∧K2 a2 w2) [o0] a1 w1)∧True)→K1 a1 w1)→wpList P A (fun e a1 w1=>e= .normal∧(∃s:KX B w0 n L E,w1=s.val)∧K1 a1 w1) [o11] a0 wk)∧True)) [o4] a):(Code.region id A true).wp P Q a w:=by
 subst hA;exact wp_reg _ _ _ hm hB c (fun wk k e f=>have g:=h wk k e f;Scr.of_rs _ _ rfl g fun _ g=>(Scr.of_alt rfl (g.1 _ fun _ _ g=>g) (fun _ _ g=>(Scr.of_alt rfl (g.1 _ fun _ _ g=>g) (fun _ _ g=>(Scr.of_alt rfl (g.1 _ fun _ _ g=>g) (fun _ _ g=>(Scr.of_alt rfl (g.1 _ fun _ _ g=>g) (fun _ _ g=>(Scr.of_altc rfl (g.1 _ fun _ _ g=>g) (fun _ _ g=>(Scr.of_altc rfl (g.1 _ fun _ _ g=>g) (fun _ _ g=>Scr.of_fs _ _ rfl g fun _ g=>(Scr.of_alt rfl (g.1 _ fun _ _ g=>g) (fun _ _ g=>(Scr.of_altc rfl (g.1 _ fun _ _ g=>g) (fun _ _ g=>Scr.of_fs _ _ rfl g fun _ g=>g) trivial)) trivial)) (Scr.of_alt rfl (g.2.1 _ fun _ _ g=>g) (fun _ _ g=>(Scr.of_altc rfl (g.1 _ fun _ _ g=>g) (fun _ _ g=>Scr.of_fs _ _ rfl g fun _ g=>(Scr.of_altc rfl (g.1 _ fun _ _ g=>g) (fun _ _ g=>Scr.of_fs _ _ rfl g fun _ g=>g) trivial)) trivial)) trivial))) (Scr.of_alt rfl (g.2.1 _ fun _ _ g=>g) (fun _ _ g=>(Scr.of_altc rfl (g.1 _ fun _ _ g=>g) (fun _ _ g=>(Scr.of_altc rfl (g.1 _ fun _ _ g=>g) (fun _ _ g=>Scr.of_fs _ _ rfl g fun _ g=>(Scr.of_altc rfl (g.1 _ fun _ _ g=>g) (fun _ _ g=>Scr.of_fs _ _ rfl g fun _ g=>g) trivial)) trivial)) trivial)) trivial))) (Scr.of_alt rfl (g.2.1 _ fun _ _ g=>g) (fun _ _ g=>(Scr.of_alt rfl (g.1 _ fun _ _ g=>g) (fun _ _ g=>(Scr.of_altc rfl (g.1 _ fun _ _ g=>g) (fun _ _ g=>(Scr.of_altc rfl (g.1 _ fun _ _ g=>g) (fun _ _ g=>Scr.of_fs _ _ rfl g fun _ g=>(Scr.of_altc rfl (g.1 _ fun _ _ g=>g) (fun _ _ g=>Scr.of_fs _ _ rfl g fun _ g=>g) trivial)) trivial)) trivial)) trivial)) trivial))) (Scr.of_alt rfl (g.2.1 _ fun _ _ g=>g) (fun _ _ g=>(Scr.of_alt rfl (g.1 _ fun _ _ g=>g) (fun _ _ g=>(Scr.of_alt rfl (g.1 _ fun _ _ g=>g) (fun _ _ g=>(Scr.of_altc rfl (g.1 _ fun _ _ g=>g) (fun _ _ g=>(Scr.of_altc rfl (g.1 _ fun _ _ g=>g) (fun _ _ g=>Scr.of_fs _ _ rfl g fun _ g=>(Scr.of_altc rfl (g.1 _ fun _ _ g=>g) (fun _ _ g=>Scr.of_fs _ _ rfl g fun _ g=>g) trivial)) trivial)) trivial)) trivial)) trivial)) trivial))) (Scr.of_alt rfl (g.2.1 _ fun _ _ g=>g) (fun _ _ g=>(Scr.of_alt rfl (g.1 _ fun _ _ g=>g) (fun _ _ g=>(Scr.of_alt rfl (g.1 _ fun _ _ g=>g) (fun _ _ g=>(Scr.of_alt rfl (g.1 _ fun _ _ g=>g) (fun _ _ g=>(Scr.of_altc rfl (g.1 _ fun _ _ g=>g) (fun _ _ g=>(Scr.of_altc rfl (g.1 _ fun _ _ g=>g) (fun _ _ g=>Scr.of_fs _ _ rfl g fun _ g=>(Scr.of_altc rfl (g.1 _ fun _ _ g=>g) (fun _ _ g=>Scr.of_fs _ _ rfl g fun _ g=>g) trivial)) trivial)) trivial)) trivial)) trivial)) trivial)) trivial))) (Scr.of_alt rfl (g.2.1 _ fun _ _ g=>g) (fun _ _ g=>(Scr.of_alt rfl (g.1 _ fun _ _ g=>g) (fun _ _ g=>(Scr.of_alt rfl (g.1 _ fun _ _ g=>g) (fun _ _ g=>(Scr.of_alt rfl (g.1 _ fun _ _ g=>g) (fun _ _ g=>(Scr.of_alt rfl (g.1 _ fun _ _ g=>g) (fun _ _ g=>(Scr.of_altc rfl (g.1 _ fun _ _ g=>g) (fun _ _ g=>(Scr.of_altc rfl (g.1 _ fun _ _ g=>g) (fun _ _ g=>Scr.of_fs _ _ rfl g fun _ g=>(Scr.of_altc rfl (g.1 _ fun _ _ g=>g) (fun _ _ g=>Scr.of_fs _ _ rfl g fun _ g=>g) trivial)) trivial)) trivial)) trivial)) trivial)) trivial)) trivial)) trivial)))
/-- the happenings that are collected -/
def Plain.exL:List Hp:=[⟨1,2,0⟩,⟨1,3,0⟩,⟨3,0,0⟩]
/-- all their triggers -/
def Plain.exA:List It:=exL.flatMap (fun h=>hapE h.wh h.id h.pl)
def Plain.exC:Bd:=coB exB exA 3
theorem allE{cs:List (Cd×List (Int×Nat))}(h:whens (cardX cs 0)=[1,3])(L:List Hp):allL cs exB L=L.flatMap (fun h=>hapE h.wh h.id h.pl):=by
 unfold allL
 induction L with
 |nil=>rfl
 |cons a L ih=>rw[List.flatMap_cons,List.flatMap_cons,ih,hapE_eq h]
theorem exC_vb:VB exC:=by
 have h:whens (cardX [({noCd with kd:=2},[(1,1),(3,1)])] 0)=[1,3]:=rfl;refine VB.co exB_vb (fun x hx=> ?_);have e:=allE h exL;exact allL_Q exB_vb x (by rw[e];exact hx)
theorem exA_drop:((exA.length:Int)-(room exB exA.length 3:Nat))=1:=by decide+kernel
theorem exC_qu:exC.qu.map It.id=[2,3,1]:=by decide+kernel
theorem exC_or:(ordL exC).map It.id=[3,2,1]:=by decide+kernel
theorem exD_st:(drB exC).st.map It.id=[3,2,1]:=by decide+kernel
theorem exD_qu:(drB exC).qu=[]:=by kernel_rfl
theorem lit1(w:World)(x0:Int):Rw ic 1 (w.alloc (.cells #[.int .i64 x0] 3)) (.slice (some ⟨w.heap.size,0,none⟩) 1 1) [x0]:=Rw.of_ro (Ro.new w _ 3) [x0] rfl ic_len (by simp) (by simp[maxLen]) 1 1 rfl
theorem lit2(w:World)(x0 x1:Int):Rw ic 1 (w.alloc (.cells #[.int .i64 x0,.int .i64 x1] 3)) (.slice (some ⟨w.heap.size,0,none⟩) 2 2) [x0,x1]:=Rw.of_ro (Ro.new w _ 3) [x0,x1] rfl ic_len (by simp) (by simp[maxLen]) 2 2 rfl
theorem lit3(w:World)(x0 x1 x2:Int):Rw ic 1 (w.alloc (.cells #[.int .i64 x0,.int .i64 x1,.int .i64 x2] 3)) (.slice (some ⟨w.heap.size,0,none⟩) 3 3) [x0,x1,x2]:=Rw.of_ro (Ro.new w _ 3) [x0,x1,x2] rfl ic_len (by simp) (by simp[maxLen]) 3 3 rfl
theorem gv0(u:Value)(w:World)(hu:Rw ic 1 w u [1]):Calls Try.prog 28 #[.agg #[.int .i64 1,.int .i64 1,.int .i64 0],.int .i64 0,u] w fun e w' =>e= .returned (.bool true)∧Below w.heap.size w w':=lgives 1 1 0 0 u [1] (hapE 1 1 0) w hu (by unfold Plain.I;omega) rfl (by decide+kernel) (by decide+kernel) (by decide+kernel)
theorem gv1(u:Value)(w:World)(hu:Rw ic 1 w u [3]):Calls Try.prog 28 #[.agg #[.int .i64 1,.int .i64 3,.int .i64 0],.int .i64 0,u] w fun e w' =>e= .returned (.bool true)∧Below w.heap.size w w':=lgives 1 3 0 0 u [3] (hapE 1 3 0) w hu (by unfold Plain.I;omega) rfl (by decide+kernel) (by decide+kernel) (by decide+kernel)
theorem gv2(u:Value)(w:World)(hu:Rw ic 1 w u [1,2]):Calls Try.prog 28 #[.agg #[.int .i64 3,.int .i64 0,.int .i64 0],.int .i64 1,u] w fun e w' =>e= .returned (.bool true)∧Below w.heap.size w w':=lgives 3 0 0 1 u [1,2] (hapE 3 0 0) w hu (by unfold Plain.I;omega) rfl (by decide+kernel) (by decide+kernel) (by decide+kernel)
theorem gv3(u:Value)(w:World)(hu:Rw ic 1 w u []):Calls Try.prog 28 #[.agg #[.int .i64 3,.int .i64 0,.int .i64 1],.int .i64 1,u] w fun e w' =>e= .returned (.bool true)∧Below w.heap.size w w':=lgives 3 0 1 1 u [] (hapE 3 0 1) w hu (by unfold Plain.I;omega) rfl (by decide+kernel) (by decide+kernel) (by decide+kernel)
theorem gv4(u:Value)(w:World)(hu:Rw ic 1 w u []):Calls Try.prog 28 #[.agg #[.int .i64 2,.int .i64 1,.int .i64 0],.int .i64 0,u] w fun e w' =>e= .returned (.bool true)∧Below w.heap.size w w':=lgives 2 1 0 0 u [] (hapE 2 1 0) w hu (by unfold Plain.I;omega) rfl (by decide+kernel) (by decide+kernel) (by decide+kernel)
theorem gv5(u:Value)(w:World)(hu:Rw ic 1 w u []):Calls Try.prog 28 #[.agg #[.int .i64 1,.int .i64 9,.int .i64 0],.int .i64 0,u] w fun e w' =>e= .returned (.bool true)∧Below w.heap.size w w':=lgives 1 9 0 0 u [] (hapE 1 9 0) w hu (by unfold Plain.I;omega) rfl (by decide+kernel) (by decide+kernel) (by decide+kernel)
theorem collectE(v:Value)(cs:List (Cd×List (Int×Nat)))(s:Bs)(ha:Option Addr)(hcp:Nat)(w:World)(hp:PoR w v cs)(h:BdR w s exB)(hv:VB exB)(hh:Rw hpc 3 w (.slice ha 3 hcp) exL):Calls Try.prog 15 #[v,bv s exB,.slice ha 3 hcp,.int .i64 3] w (BrP w exC (.int .i64 1) (.int .i64 0)):=by
 have h1:=collect_ok v cs s exB ha hcp exL 3 w (by omega) h hv (PoR.cs hp) (PoR.lt hp) hh (by decide) (by intro x hx;simp[exL] at hx;unfold Plain.I;rcases hx with rfl|rfl|rfl<;>simp);have e:allL cs exB exL=exA:=allE (PoR.wh hp) exL;rw[e,exA_drop] at h1
 exact h1
theorem collectN(v:Value)(cs:List (Cd×List (Int×Nat)))(s:Bs)(B:Bd)(w:World):Calls Try.prog 15 #[v,bv s B,.slice none 0 0,.int .i64 (-1)] w (BrP w zeroB (.int .i64 0) (.int .i64 2)):=collect_neg v cs s B none 0 [] (-1) w (by omega)
set_option maxRecDepth 100000 in
set_option maxHeartbeats 4000000 in
theorem known(w:World):Calls Try.prog 10 #[] w fun e w' =>e= .returned (.bool true)∧Below w.heap.size w w':=by
 have HVE:Hid (VB exB):=Lib.hid exB_vb;have HVC:Hid (VB exC):=Lib.hid exC_vb;have HB:Hid (Below w.heap.size w w):=Lib.hid (Below.refl _ _);go_enter Try.func10,Try.ntmps10
 go_upto_region 1 with fail
 go_upto_region 2 with fail
 obtain⟨wu,hwu⟩:∃W,W=w.alloc (.cells #[.int .i64 3,.int .i64 0,.int .i64 0] 37):=⟨_,rfl⟩
 rw[←hwu];have hb:Below w.heap.size w wu:=by rw[hwu];exact(Below.refl _ _).alloc (Nat.le_refl _) _
 obtain⟨nu,hnu⟩:∃n,n=w.heap.size:=⟨_,rfl⟩
 have HXu:Hid (Ro wu nu #[.int .i64 3,.int .i64 0,.int .i64 0] 37):=Lib.hid (by rw[hwu,hnu];exact Ro.new _ _ _);rw[←hnu];replace HB:=Lib.hid (below_via HB.out hb);have HC1:Hid (w.heap.size≤nu∧nu<wu.heap.size):=Lib.hid (⟨by omega,HXu.out.lt⟩);clear hwu hb hnu;go_wp2_with fail
 with_reducible refine(ldies 1 _).mono ?_
 rintro e w1 ⟨rfl,hb⟩;have HC2:Hid (wu.heap.size≤w1.heap.size):=Lib.hid (hb.size);replace HB:=Lib.hid (below_via HB.out hb);replace HXu:=Lib.hid (HXu.out.below hb);clear hb;go_wp2_with fail
 obtain⟨w2,hv⟩:∃X,X=w1.alloc (.cells #[.int .i64 1] 3):=⟨_,rfl⟩
 rw[←hv];have hb:Below w1.heap.size w1 w2:=by rw[hv];exact(Below.refl _ _).alloc (Nat.le_refl _) _
 have HL:Hid (Rw ic 1 w2 (.slice (some ⟨w1.heap.size,0,none⟩) 1 1) [1]):=Lib.hid (by rw[hv];exact lit1 w1 1);have HC3:Hid (w1.heap.size≤w2.heap.size):=Lib.hid (hb.size);replace HB:=Lib.hid (below_via HB.out hb);replace HXu:=Lib.hid (HXu.out.below hb);clear hb hv;with_reducible refine(gv0 _ _ HL.out).mono ?_
 rintro e w3 ⟨rfl,hb⟩;have HC4:Hid (w2.heap.size≤w3.heap.size):=Lib.hid (hb.size);replace HB:=Lib.hid (below_via HB.out hb);replace HXu:=Lib.hid (HXu.out.below hb);clear hb HL;go_wp2_with fail
 with_reducible refine(ldies 3 _).mono ?_
 rintro e w4 ⟨rfl,hb⟩;have HC5:Hid (w3.heap.size≤w4.heap.size):=Lib.hid (hb.size);replace HB:=Lib.hid (below_via HB.out hb);replace HXu:=Lib.hid (HXu.out.below hb);clear hb;go_wp2_with fail
 obtain⟨w5,hv⟩:∃X,X=w4.alloc (.cells #[.int .i64 3] 3):=⟨_,rfl⟩
 rw[←hv];have hb:Below w4.heap.size w4 w5:=by rw[hv];exact(Below.refl _ _).alloc (Nat.le_refl _) _
 have HL:Hid (Rw ic 1 w5 (.slice (some ⟨w4.heap.size,0,none⟩) 1 1) [3]):=Lib.hid (by rw[hv];exact lit1 w4 3);have HC6:Hid (w4.heap.size≤w5.heap.size):=Lib.hid (hb.size);replace HB:=Lib.hid (below_via HB.out hb);replace HXu:=Lib.hid (HXu.out.below hb);clear hb hv;with_reducible refine(gv1 _ _ HL.out).mono ?_
 rintro e w6 ⟨rfl,hb⟩;have HC7:Hid (w5.heap.size≤w6.heap.size):=Lib.hid (hb.size);replace HB:=Lib.hid (below_via HB.out hb);replace HXu:=Lib.hid (HXu.out.below hb);clear hb HL;have c0:w6.cell? ⟨nu,0,none⟩=some (.int .i64 3):=HXu.out.cell 0;have c1:w6.cell? ⟨nu,1,none⟩=some (.int .i64 0):=HXu.out.cell 1;have c2:w6.cell? ⟨nu,2,none⟩=some (.int .i64 0):=HXu.out.cell 2;have lu:nu<w6.heap.size:=HXu.out.lt;go_wp2_with fail
 clear c0 c1 c2 lu
 obtain⟨w7,hv⟩:∃X,X=w6.alloc (.cells #[.int .i64 1,.int .i64 2] 3):=⟨_,rfl⟩
 rw[←hv];have hb:Below w6.heap.size w6 w7:=by rw[hv];exact(Below.refl _ _).alloc (Nat.le_refl _) _
 have HL:Hid (Rw ic 1 w7 (.slice (some ⟨w6.heap.size,0,none⟩) 2 2) [1,2]):=Lib.hid (by rw[hv];exact lit2 w6 1 2);have HC8:Hid (w6.heap.size≤w7.heap.size):=Lib.hid (hb.size);replace HB:=Lib.hid (below_via HB.out hb);replace HXu:=Lib.hid (HXu.out.below hb);clear hb hv;with_reducible refine(gv2 _ _ HL.out).mono ?_
 rintro e w8 ⟨rfl,hb⟩;have HC9:Hid (w7.heap.size≤w8.heap.size):=Lib.hid (hb.size);replace HB:=Lib.hid (below_via HB.out hb);replace HXu:=Lib.hid (HXu.out.below hb);clear hb HL;go_wp2_with fail
 with_reducible refine(gv3 _ _ (Rw.nil _)).mono ?_
 rintro e w9 ⟨rfl,hb⟩;have HC10:Hid (w8.heap.size≤w9.heap.size):=Lib.hid (hb.size);replace HB:=Lib.hid (below_via HB.out hb);replace HXu:=Lib.hid (HXu.out.below hb);clear hb;go_wp2_with fail
 with_reducible refine(gv4 _ _ (Rw.nil _)).mono ?_
 rintro e w10 ⟨rfl,hb⟩;have HC11:Hid (w9.heap.size≤w10.heap.size):=Lib.hid (hb.size);replace HB:=Lib.hid (below_via HB.out hb);replace HXu:=Lib.hid (HXu.out.below hb);clear hb;go_wp2_with fail
 with_reducible refine(ldies 9 _).mono ?_
 rintro e w11 ⟨rfl,hb⟩;have HC12:Hid (w10.heap.size≤w11.heap.size):=Lib.hid (hb.size);replace HB:=Lib.hid (below_via HB.out hb);replace HXu:=Lib.hid (HXu.out.below hb);clear hb;go_wp2_with fail
 with_reducible refine(gv5 _ _ (Rw.nil _)).mono ?_
 rintro e w12 ⟨rfl,hb⟩;have HC13:Hid (w11.heap.size≤w12.heap.size):=Lib.hid (hb.size);replace HB:=Lib.hid (below_via HB.out hb);replace HXu:=Lib.hid (HXu.out.below hb);clear hb
 go_upto_region 4 with fail
 go_cut [2,3,4] (fun s2 s3 s4 wx=>∃nc sc,s2= .pointer (some ⟨nc,0,none⟩)∧s3= .int .i64 1∧s4= .int .i64 0∧Below w12.heap.size w12 wx∧Bx wx nc sc exC∧BdR wx sc exC)
 case first=>
  have hlb:nu<w12.heap.size:=HXu.out.lt;have d0:w12.cell? ⟨nu,0,none⟩=some (.int .i64 3):=HXu.out.cell 0;have d1:w12.cell? ⟨nu,1,none⟩=some (.int .i64 0):=HXu.out.cell 1;have d2:w12.cell? ⟨nu,2,none⟩=some (.int .i64 0):=HXu.out.cell 2;refine rg10_4 (w0:=w12) (B:=w12.heap.size) (n:=w12.heap.size) (L:=[]) (by kernel_rfl) rfl (by kernel_rfl) (.t ⟨by go_grown,by go_size,(by simp[go_sem]<;>omega)⟩) (fun w61 K_w61 E_w61 F_w61=> ?_);have _ne:Nonempty (KX (w12.heap.size) w12 (w12.heap.size) [] (fun _=>True)):=⟨⟨_,K_w61,E_w61⟩⟩;have rh0:=rck _ne d0 hlb;have rh1:=rck _ne d1 hlb;have rh2:=rck _ne d2 hlb
  repeat (go_big_quiet_step (fail))
  refine wpQuiet_nil ?_;have KH_w61:=Lib.hid K_w61;have hw_w61:=K_w61.below;have hz_w61:=K_w61.size;clear K_w61;clear E_w61 F_w61
  refine⟨fun K hK0=> ?_,fun K hK0=> ?_,trivial⟩
  ·skip
   have hK:=Lib.hid hK0;clear hK0;go_wp2_with fail
   with_reducible refine(lpool _).mono ?_
   rintro e v0 ⟨⟨vp,cs,rfl,hp⟩,hb⟩;have HW:Hid (Below w12.heap.size w12 v0):=Lib.hid (below_via KH_w61.out.below hb);have HP:=Lib.hid hp;clear hp hb;go_wp2_with fail
   first|refine⟨rfl,?u,hK.out _ _ ?_⟩|refine⟨?u,hK.out _ _ ?_⟩
   case u=>exact⟨⟨_,(⟨HW.out,HW.out.size,by simp⟩:Kept w12.heap.size w12 w12.heap.size [] v0),trivial⟩,rfl⟩
   clear hK K
   refine⟨fun K hK0=> ?_,fun K hK0=> ?_,trivial⟩
   ·skip
    have hK:=Lib.hid hK0;clear hK0;go_wp2_with fail
    with_reducible refine(lexample _).mono ?_
    rintro e v01 ⟨se,rfl,ho,hb⟩;replace HW:Hid (Below w12.heap.size w12 v01):=Lib.hid (below_via HW.out hb);replace HP:=Lib.hid (PoR.below HP.out hb);have HO:=Lib.hid ho.rd;clear ho hb;go_wp2_with fail
    first|refine⟨rfl,?u,hK.out _ _ ?_⟩|refine⟨?u,hK.out _ _ ?_⟩
    case u=>exact⟨⟨_,(⟨HW.out,HW.out.size,by simp⟩:Kept w12.heap.size w12 w12.heap.size [] v01),trivial⟩,rfl⟩
    clear hK K
    refine⟨fun K hK0=> ?_,fun K hK0=> ?_,trivial⟩
    ·skip
     have hK:=Lib.hid hK0;clear hK0;go_wp2_with fail
     with_reducible refine(ldies 2 _).mono ?_
     rintro e v012 ⟨rfl,hb⟩;replace HW:Hid (Below w12.heap.size w12 v012):=Lib.hid (below_via HW.out hb);replace HP:=Lib.hid (PoR.below HP.out hb);replace HO:=Lib.hid (HO.out.below hb);clear hb;go_wp2_with fail
     first|refine⟨rfl,?u,hK.out _ _ ?_⟩|refine⟨?u,hK.out _ _ ?_⟩
     case u=>exact⟨⟨_,(⟨HW.out,HW.out.size,by simp⟩:Kept w12.heap.size w12 w12.heap.size [] v012),trivial⟩,rfl⟩
     clear hK K
     refine⟨fun K hK0=> ?_,fun K hK0=> ?_,trivial⟩
     ·skip
      have hK:=Lib.hid hK0;clear hK0;go_wp2_with fail
      with_reducible refine(ldies 3 _).mono ?_
      rintro e v0123 ⟨rfl,hb⟩;replace HW:Hid (Below w12.heap.size w12 v0123):=Lib.hid (below_via HW.out hb);replace HP:=Lib.hid (PoR.below HP.out hb);replace HO:=Lib.hid (HO.out.below hb);clear hb;go_wp2_with fail
      first|refine⟨rfl,?u,hK.out _ _ ?_⟩|refine⟨?u,hK.out _ _ ?_⟩
      case u=>exact⟨⟨_,(⟨HW.out,HW.out.size,by simp⟩:Kept w12.heap.size w12 w12.heap.size [] v0123),trivial⟩,rfl⟩
      clear hK K
      refine⟨fun K hK0=> ?_,fun K hK0=> ?_,trivial⟩
      ·skip
       have hK:=Lib.hid hK0;clear hK0;go_wp2_with fail
       obtain⟨v01235,hw7⟩:∃W,W=v0123.alloc (.cells #[.int .i64 1,.int .i64 2,.int .i64 0,.int .i64 1,.int .i64 3,.int .i64 0,.int .i64 3,.int .i64 0,.int .i64 0] 37):=⟨_,rfl⟩
       rw[←hw7];have hb:Below v0123.heap.size v0123 v01235:=by rw[hw7];exact(Below.refl _ _).alloc (Nat.le_refl _) _
       replace HW:Hid (Below w12.heap.size w12 v01235):=Lib.hid (below_via HW.out hb);replace HP:=Lib.hid (PoR.below HP.out hb);replace HO:=Lib.hid (HO.out.below hb);have HH:Hid (Rw hpc 3 v01235 (.slice (some ⟨v0123.heap.size,0,none⟩) 3 3) exL):=Lib.hid (by rw[hw7];exact Rw.of_ro (Ro.new _ _ _) exL rfl hpc_len (by simp[exL]) (by simp[exL,maxLen]) _ _ rfl);clear hw7 hb
       first|refine⟨rfl,hK.out _ _ ?_⟩|refine hK.out _ _ ?_
       clear hK K
       refine⟨fun K hK0=> ?_,fun K hK0=> ?_,trivial⟩
       ·skip
        have hK:=Lib.hid hK0;clear hK0;go_wp2_with fail
        with_reducible refine(collectE vp cs se _ _ _ HP.out HO.out HVE.out HH.out).mono ?_
        rintro e v012356 ⟨sc,rfl,ho,hb⟩;replace HW:Hid (Below w12.heap.size w12 v012356):=Lib.hid (below_via HW.out hb);replace HP:=Lib.hid (PoR.below HP.out hb);replace HO:=Lib.hid (HO.out.below hb);replace HH:=Lib.hid (HH.out.below hb);have HC:=Lib.hid ho;clear ho hb;go_wp2_with fail
        first|refine⟨rfl,hK.out _ _ ?_⟩|refine hK.out _ _ ?_
        clear hK K
        repeat (go_big_quiet_step (fail))
        refine wpQuiet_nil ?_
        refine⟨fun K hK0=> ?_,trivial⟩
        have hK:=Lib.hid hK0;clear hK0;go_wp2_with fail
        obtain⟨v012356a,hw7⟩:∃W,W=v012356.alloc (.cells #[.slice none 0 0,.int .i64 0,.int .i64 0,.int .i64 0,.int .i64 0,.int .i64 0,.slice none 0 0,.slice none 0 0,.slice none 0 0,.slice none 0 0,.bool false,.bool false,.bool false,.int .i64 0,.int .i64 0,.int .i64 0,.int .i64 0,.int .i64 0,.int .i64 0,.int .i64 0,.slice none 0 0,.slice none 0 0,.slice none 0 0,.slice none 0 0,.bool false,.bool false,.bool false,.int .i64 0,.int .i64 0,.slice none 0 0,.slice none 0 0,.slice none 0 0,.slice none 0 0,.int .i64 0,.int .i64 0,.int .i64 0,.int .i64 0,.int .i64 0] 34):=⟨_,rfl⟩
        rw[←hw7];have hb:Below v012356.heap.size v012356 v012356a:=by rw[hw7];exact(Below.refl _ _).alloc (Nat.le_refl _) _
        obtain⟨nc,hnc⟩:∃n,n=v012356.heap.size:=⟨_,rfl⟩
        rw[←hnc];have hnl:w12.heap.size≤nc:=by have h1:=HW.out.size;omega
        have HNC:=Lib.hid hnl;replace HW:Hid (Below w12.heap.size w12 v012356a):=Lib.hid (below_via HW.out hb);replace HP:=Lib.hid (PoR.below HP.out hb);replace HO:=Lib.hid (HO.out.below hb);replace HH:=Lib.hid (HH.out.below hb);replace HC:=Lib.hid (HC.out.below hb);have HN:Hid (Bx v012356a nc nilS zeroB):=Lib.hid (by rw[hw7,hnc];exact Ro.new _ _ _);clear hw7 hb hnc hnl
        first|refine⟨rfl,?u,hK.out _ _ ?_⟩|refine⟨?u,hK.out _ _ ?_⟩
        case u=>exact⟨⟨_,(⟨HW.out,HW.out.size,by simp⟩:Kept w12.heap.size w12 w12.heap.size [] v012356a),trivial⟩,rfl⟩
        clear hK K
        refine⟨fun K hK0=> ?_,trivial⟩
        have hK:=Lib.hid hK0;clear hK0;go_wp2_with (refine wpList_store_bh (s:=sc) (B:=exC) rfl _ _ rfl rfl rfl HN.out rfl ?_)
        intro v9 hw9;have hon:Onl [nc] v012356a v9:=by rw[hw9.out];exact Onl.setRow (Onl.refl _ _) (.inl (by simp)) _
        have HX9:Hid (Bx v9 nc sc exC):=Lib.hid (by rw[hw9.out];exact Bx.row HN.out _ _);have HC9:=Lib.hid (HC.out.onlB hon HN.out).rd;have HW9:Hid (Below w12.heap.size w12 v9):=Lib.hid (belowOnl HW.out hon (by simp only[List.mem_singleton,forall_eq];exact HNC.out) HW.out.size);clear hw9 hon
        first|refine⟨rfl,hK.out _ _ ?_⟩|refine hK.out _ _ ?_
        clear hK K
        repeat (go_big_quiet_step (fail))
        refine wpQuiet_nil ?_;clear _ne rh0 rh1 rh2;go_wp2_with fail
        go_meet
        case rel=>exact⟨_,_,rfl,rfl,rfl,HW9.out,HX9.out,HC9.out⟩
       ·skip
        have hK:=Lib.hid hK0;clear hK0;go_wp2_with fail
        obtain⟨v01235a,hw7⟩:∃W,W=v01235.alloc (.cells #[.slice none 0 0,.int .i64 0,.int .i64 0,.int .i64 0,.int .i64 0,.int .i64 0,.slice none 0 0,.slice none 0 0,.slice none 0 0,.slice none 0 0,.bool false,.bool false,.bool false,.int .i64 0,.int .i64 0,.int .i64 0,.int .i64 0,.int .i64 0,.int .i64 0,.int .i64 0,.slice none 0 0,.slice none 0 0,.slice none 0 0,.slice none 0 0,.bool false,.bool false,.bool false,.int .i64 0,.int .i64 0,.slice none 0 0,.slice none 0 0,.slice none 0 0,.slice none 0 0,.int .i64 0,.int .i64 0,.int .i64 0,.int .i64 0,.int .i64 0] 34):=⟨_,rfl⟩
        rw[←hw7];have hb:Below v01235.heap.size v01235 v01235a:=by rw[hw7];exact(Below.refl _ _).alloc (Nat.le_refl _) _
        obtain⟨nc,hnc⟩:∃n,n=v01235.heap.size:=⟨_,rfl⟩
        rw[←hnc];have hnl:w12.heap.size≤nc:=by have h1:=HW.out.size;omega
        have HNC:=Lib.hid hnl;replace HW:Hid (Below w12.heap.size w12 v01235a):=Lib.hid (below_via HW.out hb);replace HP:=Lib.hid (PoR.below HP.out hb);replace HO:=Lib.hid (HO.out.below hb);replace HH:=Lib.hid (HH.out.below hb);have HN:Hid (Bx v01235a nc nilS zeroB):=Lib.hid (by rw[hw7,hnc];exact Ro.new _ _ _);clear hw7 hb hnc hnl
        first|refine⟨rfl,?u,hK.out _ _ ?_⟩|refine⟨?u,hK.out _ _ ?_⟩
        case u=>exact⟨⟨_,(⟨HW.out,HW.out.size,by simp⟩:Kept w12.heap.size w12 w12.heap.size [] v01235a),trivial⟩,rfl⟩
        clear hK K
        refine⟨fun K hK0=> ?_,trivial⟩
        have hK:=Lib.hid hK0;clear hK0;go_wp2_with fail
        with_reducible refine(collectE vp cs se _ _ _ HP.out HO.out HVE.out HH.out).mono ?_
        rintro e v01235a6 ⟨sc,rfl,ho,hb⟩;replace HW:Hid (Below w12.heap.size w12 v01235a6):=Lib.hid (below_via HW.out hb);replace HP:=Lib.hid (PoR.below HP.out hb);replace HO:=Lib.hid (HO.out.below hb);replace HN:=Lib.hid (HN.out.below hb);replace HH:=Lib.hid (HH.out.below hb);have HC:=Lib.hid ho;clear ho hb;go_wp2_with fail
        first|refine⟨rfl,hK.out _ _ ?_⟩|refine hK.out _ _ ?_
        clear hK K
        repeat (go_big_quiet_step (fail))
        refine wpQuiet_nil ?_
        refine⟨fun K hK0=> ?_,trivial⟩
        have hK:=Lib.hid hK0;clear hK0;go_wp2_with (refine wpList_store_bh (s:=sc) (B:=exC) rfl _ _ rfl rfl rfl HN.out rfl ?_)
        intro v9 hw9;have hon:Onl [nc] v01235a6 v9:=by rw[hw9.out];exact Onl.setRow (Onl.refl _ _) (.inl (by simp)) _
        have HX9:Hid (Bx v9 nc sc exC):=Lib.hid (by rw[hw9.out];exact Bx.row HN.out _ _);have HC9:=Lib.hid (HC.out.onlB hon HN.out).rd;have HW9:Hid (Below w12.heap.size w12 v9):=Lib.hid (belowOnl HW.out hon (by simp only[List.mem_singleton,forall_eq];exact HNC.out) HW.out.size);clear hw9 hon
        first|refine⟨rfl,hK.out _ _ ?_⟩|refine hK.out _ _ ?_
        clear hK K
        repeat (go_big_quiet_step (fail))
        refine wpQuiet_nil ?_;clear _ne rh0 rh1 rh2;go_wp2_with fail
        go_meet
        case rel=>exact⟨_,_,rfl,rfl,rfl,HW9.out,HX9.out,HC9.out⟩
      ·skip
       have hK:=Lib.hid hK0;clear hK0;go_wp2_with fail
       obtain⟨v0123a,hw7⟩:∃W,W=v0123.alloc (.cells #[.slice none 0 0,.int .i64 0,.int .i64 0,.int .i64 0,.int .i64 0,.int .i64 0,.slice none 0 0,.slice none 0 0,.slice none 0 0,.slice none 0 0,.bool false,.bool false,.bool false,.int .i64 0,.int .i64 0,.int .i64 0,.int .i64 0,.int .i64 0,.int .i64 0,.int .i64 0,.slice none 0 0,.slice none 0 0,.slice none 0 0,.slice none 0 0,.bool false,.bool false,.bool false,.int .i64 0,.int .i64 0,.slice none 0 0,.slice none 0 0,.slice none 0 0,.slice none 0 0,.int .i64 0,.int .i64 0,.int .i64 0,.int .i64 0,.int .i64 0] 34):=⟨_,rfl⟩
       rw[←hw7];have hb:Below v0123.heap.size v0123 v0123a:=by rw[hw7];exact(Below.refl _ _).alloc (Nat.le_refl _) _
       obtain⟨nc,hnc⟩:∃n,n=v0123.heap.size:=⟨_,rfl⟩
       rw[←hnc];have hnl:w12.heap.size≤nc:=by have h1:=HW.out.size;omega
       have HNC:=Lib.hid hnl;replace HW:Hid (Below w12.heap.size w12 v0123a):=Lib.hid (below_via HW.out hb);replace HP:=Lib.hid (PoR.below HP.out hb);replace HO:=Lib.hid (HO.out.below hb);have HN:Hid (Bx v0123a nc nilS zeroB):=Lib.hid (by rw[hw7,hnc];exact Ro.new _ _ _);clear hw7 hb hnc hnl
       first|refine⟨rfl,?u,hK.out _ _ ?_⟩|refine⟨?u,hK.out _ _ ?_⟩
       case u=>exact⟨⟨_,(⟨HW.out,HW.out.size,by simp⟩:Kept w12.heap.size w12 w12.heap.size [] v0123a),trivial⟩,rfl⟩
       clear hK K
       refine⟨fun K hK0=> ?_,trivial⟩
       have hK:=Lib.hid hK0;clear hK0;go_wp2_with fail
       obtain⟨v0123a5,hw7⟩:∃W,W=v0123a.alloc (.cells #[.int .i64 1,.int .i64 2,.int .i64 0,.int .i64 1,.int .i64 3,.int .i64 0,.int .i64 3,.int .i64 0,.int .i64 0] 37):=⟨_,rfl⟩
       rw[←hw7];have hb:Below v0123a.heap.size v0123a v0123a5:=by rw[hw7];exact(Below.refl _ _).alloc (Nat.le_refl _) _
       replace HW:Hid (Below w12.heap.size w12 v0123a5):=Lib.hid (below_via HW.out hb);replace HP:=Lib.hid (PoR.below HP.out hb);replace HO:=Lib.hid (HO.out.below hb);replace HN:=Lib.hid (HN.out.below hb);have HH:Hid (Rw hpc 3 v0123a5 (.slice (some ⟨v0123a.heap.size,0,none⟩) 3 3) exL):=Lib.hid (by rw[hw7];exact Rw.of_ro (Ro.new _ _ _) exL rfl hpc_len (by simp[exL]) (by simp[exL,maxLen]) _ _ rfl);clear hw7 hb
       first|refine⟨rfl,hK.out _ _ ?_⟩|refine hK.out _ _ ?_
       clear hK K
       refine⟨fun K hK0=> ?_,trivial⟩
       have hK:=Lib.hid hK0;clear hK0;go_wp2_with fail
       with_reducible refine(collectE vp cs se _ _ _ HP.out HO.out HVE.out HH.out).mono ?_
       rintro e v0123a56 ⟨sc,rfl,ho,hb⟩;replace HW:Hid (Below w12.heap.size w12 v0123a56):=Lib.hid (below_via HW.out hb);replace HP:=Lib.hid (PoR.below HP.out hb);replace HO:=Lib.hid (HO.out.below hb);replace HN:=Lib.hid (HN.out.below hb);replace HH:=Lib.hid (HH.out.below hb);have HC:=Lib.hid ho;clear ho hb;go_wp2_with fail
       first|refine⟨rfl,hK.out _ _ ?_⟩|refine hK.out _ _ ?_
       clear hK K
       repeat (go_big_quiet_step (fail))
       refine wpQuiet_nil ?_
       refine⟨fun K hK0=> ?_,trivial⟩
       have hK:=Lib.hid hK0;clear hK0;go_wp2_with (refine wpList_store_bh (s:=sc) (B:=exC) rfl _ _ rfl rfl rfl HN.out rfl ?_)
       intro v9 hw9;have hon:Onl [nc] v0123a56 v9:=by rw[hw9.out];exact Onl.setRow (Onl.refl _ _) (.inl (by simp)) _
       have HX9:Hid (Bx v9 nc sc exC):=Lib.hid (by rw[hw9.out];exact Bx.row HN.out _ _);have HC9:=Lib.hid (HC.out.onlB hon HN.out).rd;have HW9:Hid (Below w12.heap.size w12 v9):=Lib.hid (belowOnl HW.out hon (by simp only[List.mem_singleton,forall_eq];exact HNC.out) HW.out.size);clear hw9 hon
       first|refine⟨rfl,hK.out _ _ ?_⟩|refine hK.out _ _ ?_
       clear hK K
       repeat (go_big_quiet_step (fail))
       refine wpQuiet_nil ?_;clear _ne rh0 rh1 rh2;go_wp2_with fail
       go_meet
       case rel=>exact⟨_,_,rfl,rfl,rfl,HW9.out,HX9.out,HC9.out⟩
     ·skip
      have hK:=Lib.hid hK0;clear hK0;go_wp2_with fail
      obtain⟨v012a,hw7⟩:∃W,W=v012.alloc (.cells #[.slice none 0 0,.int .i64 0,.int .i64 0,.int .i64 0,.int .i64 0,.int .i64 0,.slice none 0 0,.slice none 0 0,.slice none 0 0,.slice none 0 0,.bool false,.bool false,.bool false,.int .i64 0,.int .i64 0,.int .i64 0,.int .i64 0,.int .i64 0,.int .i64 0,.int .i64 0,.slice none 0 0,.slice none 0 0,.slice none 0 0,.slice none 0 0,.bool false,.bool false,.bool false,.int .i64 0,.int .i64 0,.slice none 0 0,.slice none 0 0,.slice none 0 0,.slice none 0 0,.int .i64 0,.int .i64 0,.int .i64 0,.int .i64 0,.int .i64 0] 34):=⟨_,rfl⟩
      rw[←hw7];have hb:Below v012.heap.size v012 v012a:=by rw[hw7];exact(Below.refl _ _).alloc (Nat.le_refl _) _
      obtain⟨nc,hnc⟩:∃n,n=v012.heap.size:=⟨_,rfl⟩
      rw[←hnc];have hnl:w12.heap.size≤nc:=by have h1:=HW.out.size;omega
      have HNC:=Lib.hid hnl;replace HW:Hid (Below w12.heap.size w12 v012a):=Lib.hid (below_via HW.out hb);replace HP:=Lib.hid (PoR.below HP.out hb);replace HO:=Lib.hid (HO.out.below hb);have HN:Hid (Bx v012a nc nilS zeroB):=Lib.hid (by rw[hw7,hnc];exact Ro.new _ _ _);clear hw7 hb hnc hnl
      first|refine⟨rfl,?u,hK.out _ _ ?_⟩|refine⟨?u,hK.out _ _ ?_⟩
      case u=>exact⟨⟨_,(⟨HW.out,HW.out.size,by simp⟩:Kept w12.heap.size w12 w12.heap.size [] v012a),trivial⟩,rfl⟩
      clear hK K
      refine⟨fun K hK0=> ?_,trivial⟩
      have hK:=Lib.hid hK0;clear hK0;go_wp2_with fail
      with_reducible refine(ldies 3 _).mono ?_
      rintro e v012a3 ⟨rfl,hb⟩;replace HW:Hid (Below w12.heap.size w12 v012a3):=Lib.hid (below_via HW.out hb);replace HP:=Lib.hid (PoR.below HP.out hb);replace HO:=Lib.hid (HO.out.below hb);replace HN:=Lib.hid (HN.out.below hb);clear hb;go_wp2_with fail
      first|refine⟨rfl,?u,hK.out _ _ ?_⟩|refine⟨?u,hK.out _ _ ?_⟩
      case u=>exact⟨⟨_,(⟨HW.out,HW.out.size,by simp⟩:Kept w12.heap.size w12 w12.heap.size [] v012a3),trivial⟩,rfl⟩
      clear hK K
      refine⟨fun K hK0=> ?_,trivial⟩
      have hK:=Lib.hid hK0;clear hK0;go_wp2_with fail
      obtain⟨v012a35,hw7⟩:∃W,W=v012a3.alloc (.cells #[.int .i64 1,.int .i64 2,.int .i64 0,.int .i64 1,.int .i64 3,.int .i64 0,.int .i64 3,.int .i64 0,.int .i64 0] 37):=⟨_,rfl⟩
      rw[←hw7];have hb:Below v012a3.heap.size v012a3 v012a35:=by rw[hw7];exact(Below.refl _ _).alloc (Nat.le_refl _) _
      replace HW:Hid (Below w12.heap.size w12 v012a35):=Lib.hid (below_via HW.out hb);replace HP:=Lib.hid (PoR.below HP.out hb);replace HO:=Lib.hid (HO.out.below hb);replace HN:=Lib.hid (HN.out.below hb);have HH:Hid (Rw hpc 3 v012a35 (.slice (some ⟨v012a3.heap.size,0,none⟩) 3 3) exL):=Lib.hid (by rw[hw7];exact Rw.of_ro (Ro.new _ _ _) exL rfl hpc_len (by simp[exL]) (by simp[exL,maxLen]) _ _ rfl);clear hw7 hb
      first|refine⟨rfl,hK.out _ _ ?_⟩|refine hK.out _ _ ?_
      clear hK K
      refine⟨fun K hK0=> ?_,trivial⟩
      have hK:=Lib.hid hK0;clear hK0;go_wp2_with fail
      with_reducible refine(collectE vp cs se _ _ _ HP.out HO.out HVE.out HH.out).mono ?_
      rintro e v012a356 ⟨sc,rfl,ho,hb⟩;replace HW:Hid (Below w12.heap.size w12 v012a356):=Lib.hid (below_via HW.out hb);replace HP:=Lib.hid (PoR.below HP.out hb);replace HO:=Lib.hid (HO.out.below hb);replace HN:=Lib.hid (HN.out.below hb);replace HH:=Lib.hid (HH.out.below hb);have HC:=Lib.hid ho;clear ho hb;go_wp2_with fail
      first|refine⟨rfl,hK.out _ _ ?_⟩|refine hK.out _ _ ?_
      clear hK K
      repeat (go_big_quiet_step (fail))
      refine wpQuiet_nil ?_
      refine⟨fun K hK0=> ?_,trivial⟩
      have hK:=Lib.hid hK0;clear hK0;go_wp2_with (refine wpList_store_bh (s:=sc) (B:=exC) rfl _ _ rfl rfl rfl HN.out rfl ?_)
      intro v9 hw9;have hon:Onl [nc] v012a356 v9:=by rw[hw9.out];exact Onl.setRow (Onl.refl _ _) (.inl (by simp)) _
      have HX9:Hid (Bx v9 nc sc exC):=Lib.hid (by rw[hw9.out];exact Bx.row HN.out _ _);have HC9:=Lib.hid (HC.out.onlB hon HN.out).rd;have HW9:Hid (Below w12.heap.size w12 v9):=Lib.hid (belowOnl HW.out hon (by simp only[List.mem_singleton,forall_eq];exact HNC.out) HW.out.size);clear hw9 hon
      first|refine⟨rfl,hK.out _ _ ?_⟩|refine hK.out _ _ ?_
      clear hK K
      repeat (go_big_quiet_step (fail))
      refine wpQuiet_nil ?_;clear _ne rh0 rh1 rh2;go_wp2_with fail
      go_meet
      case rel=>exact⟨_,_,rfl,rfl,rfl,HW9.out,HX9.out,HC9.out⟩
    ·skip
     have hK:=Lib.hid hK0;clear hK0;go_wp2_with fail
     obtain⟨v01a,hw7⟩:∃W,W=v01.alloc (.cells #[.slice none 0 0,.int .i64 0,.int .i64 0,.int .i64 0,.int .i64 0,.int .i64 0,.slice none 0 0,.slice none 0 0,.slice none 0 0,.slice none 0 0,.bool false,.bool false,.bool false,.int .i64 0,.int .i64 0,.int .i64 0,.int .i64 0,.int .i64 0,.int .i64 0,.int .i64 0,.slice none 0 0,.slice none 0 0,.slice none 0 0,.slice none 0 0,.bool false,.bool false,.bool false,.int .i64 0,.int .i64 0,.slice none 0 0,.slice none 0 0,.slice none 0 0,.slice none 0 0,.int .i64 0,.int .i64 0,.int .i64 0,.int .i64 0,.int .i64 0] 34):=⟨_,rfl⟩
     rw[←hw7];have hb:Below v01.heap.size v01 v01a:=by rw[hw7];exact(Below.refl _ _).alloc (Nat.le_refl _) _
     obtain⟨nc,hnc⟩:∃n,n=v01.heap.size:=⟨_,rfl⟩
     rw[←hnc];have hnl:w12.heap.size≤nc:=by have h1:=HW.out.size;omega
     have HNC:=Lib.hid hnl;replace HW:Hid (Below w12.heap.size w12 v01a):=Lib.hid (below_via HW.out hb);replace HP:=Lib.hid (PoR.below HP.out hb);replace HO:=Lib.hid (HO.out.below hb);have HN:Hid (Bx v01a nc nilS zeroB):=Lib.hid (by rw[hw7,hnc];exact Ro.new _ _ _);clear hw7 hb hnc hnl
     first|refine⟨rfl,?u,hK.out _ _ ?_⟩|refine⟨?u,hK.out _ _ ?_⟩
     case u=>exact⟨⟨_,(⟨HW.out,HW.out.size,by simp⟩:Kept w12.heap.size w12 w12.heap.size [] v01a),trivial⟩,rfl⟩
     clear hK K
     refine⟨fun K hK0=> ?_,trivial⟩
     have hK:=Lib.hid hK0;clear hK0;go_wp2_with fail
     with_reducible refine(ldies 2 _).mono ?_
     rintro e v01a2 ⟨rfl,hb⟩;replace HW:Hid (Below w12.heap.size w12 v01a2):=Lib.hid (below_via HW.out hb);replace HP:=Lib.hid (PoR.below HP.out hb);replace HO:=Lib.hid (HO.out.below hb);replace HN:=Lib.hid (HN.out.below hb);clear hb;go_wp2_with fail
     first|refine⟨rfl,?u,hK.out _ _ ?_⟩|refine⟨?u,hK.out _ _ ?_⟩
     case u=>exact⟨⟨_,(⟨HW.out,HW.out.size,by simp⟩:Kept w12.heap.size w12 w12.heap.size [] v01a2),trivial⟩,rfl⟩
     clear hK K
     refine⟨fun K hK0=> ?_,trivial⟩
     have hK:=Lib.hid hK0;clear hK0;go_wp2_with fail
     with_reducible refine(ldies 3 _).mono ?_
     rintro e v01a23 ⟨rfl,hb⟩;replace HW:Hid (Below w12.heap.size w12 v01a23):=Lib.hid (below_via HW.out hb);replace HP:=Lib.hid (PoR.below HP.out hb);replace HO:=Lib.hid (HO.out.below hb);replace HN:=Lib.hid (HN.out.below hb);clear hb;go_wp2_with fail
     first|refine⟨rfl,?u,hK.out _ _ ?_⟩|refine⟨?u,hK.out _ _ ?_⟩
     case u=>exact⟨⟨_,(⟨HW.out,HW.out.size,by simp⟩:Kept w12.heap.size w12 w12.heap.size [] v01a23),trivial⟩,rfl⟩
     clear hK K
     refine⟨fun K hK0=> ?_,trivial⟩
     have hK:=Lib.hid hK0;clear hK0;go_wp2_with fail
     obtain⟨v01a235,hw7⟩:∃W,W=v01a23.alloc (.cells #[.int .i64 1,.int .i64 2,.int .i64 0,.int .i64 1,.int .i64 3,.int .i64 0,.int .i64 3,.int .i64 0,.int .i64 0] 37):=⟨_,rfl⟩
     rw[←hw7];have hb:Below v01a23.heap.size v01a23 v01a235:=by rw[hw7];exact(Below.refl _ _).alloc (Nat.le_refl _) _
     replace HW:Hid (Below w12.heap.size w12 v01a235):=Lib.hid (below_via HW.out hb);replace HP:=Lib.hid (PoR.below HP.out hb);replace HO:=Lib.hid (HO.out.below hb);replace HN:=Lib.hid (HN.out.below hb);have HH:Hid (Rw hpc 3 v01a235 (.slice (some ⟨v01a23.heap.size,0,none⟩) 3 3) exL):=Lib.hid (by rw[hw7];exact Rw.of_ro (Ro.new _ _ _) exL rfl hpc_len (by simp[exL]) (by simp[exL,maxLen]) _ _ rfl);clear hw7 hb
     first|refine⟨rfl,hK.out _ _ ?_⟩|refine hK.out _ _ ?_
     clear hK K
     refine⟨fun K hK0=> ?_,trivial⟩
     have hK:=Lib.hid hK0;clear hK0;go_wp2_with fail
     with_reducible refine(collectE vp cs se _ _ _ HP.out HO.out HVE.out HH.out).mono ?_
     rintro e v01a2356 ⟨sc,rfl,ho,hb⟩;replace HW:Hid (Below w12.heap.size w12 v01a2356):=Lib.hid (below_via HW.out hb);replace HP:=Lib.hid (PoR.below HP.out hb);replace HO:=Lib.hid (HO.out.below hb);replace HN:=Lib.hid (HN.out.below hb);replace HH:=Lib.hid (HH.out.below hb);have HC:=Lib.hid ho;clear ho hb;go_wp2_with fail
     first|refine⟨rfl,hK.out _ _ ?_⟩|refine hK.out _ _ ?_
     clear hK K
     repeat (go_big_quiet_step (fail))
     refine wpQuiet_nil ?_
     refine⟨fun K hK0=> ?_,trivial⟩
     have hK:=Lib.hid hK0;clear hK0;go_wp2_with (refine wpList_store_bh (s:=sc) (B:=exC) rfl _ _ rfl rfl rfl HN.out rfl ?_)
     intro v9 hw9;have hon:Onl [nc] v01a2356 v9:=by rw[hw9.out];exact Onl.setRow (Onl.refl _ _) (.inl (by simp)) _
     have HX9:Hid (Bx v9 nc sc exC):=Lib.hid (by rw[hw9.out];exact Bx.row HN.out _ _);have HC9:=Lib.hid (HC.out.onlB hon HN.out).rd;have HW9:Hid (Below w12.heap.size w12 v9):=Lib.hid (belowOnl HW.out hon (by simp only[List.mem_singleton,forall_eq];exact HNC.out) HW.out.size);clear hw9 hon
     first|refine⟨rfl,hK.out _ _ ?_⟩|refine hK.out _ _ ?_
     clear hK K
     repeat (go_big_quiet_step (fail))
     refine wpQuiet_nil ?_;clear _ne rh0 rh1 rh2;go_wp2_with fail
     go_meet
     case rel=>exact⟨_,_,rfl,rfl,rfl,HW9.out,HX9.out,HC9.out⟩
   ·skip
    have hK:=Lib.hid hK0;clear hK0;go_wp2_with fail
    obtain⟨v0a,hw7⟩:∃W,W=v0.alloc (.cells #[.slice none 0 0,.int .i64 0,.int .i64 0,.int .i64 0,.int .i64 0,.int .i64 0,.slice none 0 0,.slice none 0 0,.slice none 0 0,.slice none 0 0,.bool false,.bool false,.bool false,.int .i64 0,.int .i64 0,.int .i64 0,.int .i64 0,.int .i64 0,.int .i64 0,.int .i64 0,.slice none 0 0,.slice none 0 0,.slice none 0 0,.slice none 0 0,.bool false,.bool false,.bool false,.int .i64 0,.int .i64 0,.slice none 0 0,.slice none 0 0,.slice none 0 0,.slice none 0 0,.int .i64 0,.int .i64 0,.int .i64 0,.int .i64 0,.int .i64 0] 34):=⟨_,rfl⟩
    rw[←hw7];have hb:Below v0.heap.size v0 v0a:=by rw[hw7];exact(Below.refl _ _).alloc (Nat.le_refl _) _
    obtain⟨nc,hnc⟩:∃n,n=v0.heap.size:=⟨_,rfl⟩
    rw[←hnc];have hnl:w12.heap.size≤nc:=by have h1:=HW.out.size;omega
    have HNC:=Lib.hid hnl;replace HW:Hid (Below w12.heap.size w12 v0a):=Lib.hid (below_via HW.out hb);replace HP:=Lib.hid (PoR.below HP.out hb);have HN:Hid (Bx v0a nc nilS zeroB):=Lib.hid (by rw[hw7,hnc];exact Ro.new _ _ _);clear hw7 hb hnc hnl
    first|refine⟨rfl,?u,hK.out _ _ ?_⟩|refine⟨?u,hK.out _ _ ?_⟩
    case u=>exact⟨⟨_,(⟨HW.out,HW.out.size,by simp⟩:Kept w12.heap.size w12 w12.heap.size [] v0a),trivial⟩,rfl⟩
    clear hK K
    refine⟨fun K hK0=> ?_,trivial⟩
    have hK:=Lib.hid hK0;clear hK0;go_wp2_with fail
    with_reducible refine(lexample _).mono ?_
    rintro e v0a1 ⟨se,rfl,ho,hb⟩;replace HW:Hid (Below w12.heap.size w12 v0a1):=Lib.hid (below_via HW.out hb);replace HP:=Lib.hid (PoR.below HP.out hb);replace HN:=Lib.hid (HN.out.below hb);have HO:=Lib.hid ho.rd;clear ho hb;go_wp2_with fail
    first|refine⟨rfl,?u,hK.out _ _ ?_⟩|refine⟨?u,hK.out _ _ ?_⟩
    case u=>exact⟨⟨_,(⟨HW.out,HW.out.size,by simp⟩:Kept w12.heap.size w12 w12.heap.size [] v0a1),trivial⟩,rfl⟩
    clear hK K
    refine⟨fun K hK0=> ?_,trivial⟩
    have hK:=Lib.hid hK0;clear hK0;go_wp2_with fail
    with_reducible refine(ldies 2 _).mono ?_
    rintro e v0a12 ⟨rfl,hb⟩;replace HW:Hid (Below w12.heap.size w12 v0a12):=Lib.hid (below_via HW.out hb);replace HP:=Lib.hid (PoR.below HP.out hb);replace HO:=Lib.hid (HO.out.below hb);replace HN:=Lib.hid (HN.out.below hb);clear hb;go_wp2_with fail
    first|refine⟨rfl,?u,hK.out _ _ ?_⟩|refine⟨?u,hK.out _ _ ?_⟩
    case u=>exact⟨⟨_,(⟨HW.out,HW.out.size,by simp⟩:Kept w12.heap.size w12 w12.heap.size [] v0a12),trivial⟩,rfl⟩
    clear hK K
    refine⟨fun K hK0=> ?_,trivial⟩
    have hK:=Lib.hid hK0;clear hK0;go_wp2_with fail
    with_reducible refine(ldies 3 _).mono ?_
    rintro e v0a123 ⟨rfl,hb⟩;replace HW:Hid (Below w12.heap.size w12 v0a123):=Lib.hid (below_via HW.out hb);replace HP:=Lib.hid (PoR.below HP.out hb);replace HO:=Lib.hid (HO.out.below hb);replace HN:=Lib.hid (HN.out.below hb);clear hb;go_wp2_with fail
    first|refine⟨rfl,?u,hK.out _ _ ?_⟩|refine⟨?u,hK.out _ _ ?_⟩
    case u=>exact⟨⟨_,(⟨HW.out,HW.out.size,by simp⟩:Kept w12.heap.size w12 w12.heap.size [] v0a123),trivial⟩,rfl⟩
    clear hK K
    refine⟨fun K hK0=> ?_,trivial⟩
    have hK:=Lib.hid hK0;clear hK0;go_wp2_with fail
    obtain⟨v0a1235,hw7⟩:∃W,W=v0a123.alloc (.cells #[.int .i64 1,.int .i64 2,.int .i64 0,.int .i64 1,.int .i64 3,.int .i64 0,.int .i64 3,.int .i64 0,.int .i64 0] 37):=⟨_,rfl⟩
    rw[←hw7];have hb:Below v0a123.heap.size v0a123 v0a1235:=by rw[hw7];exact(Below.refl _ _).alloc (Nat.le_refl _) _
    replace HW:Hid (Below w12.heap.size w12 v0a1235):=Lib.hid (below_via HW.out hb);replace HP:=Lib.hid (PoR.below HP.out hb);replace HO:=Lib.hid (HO.out.below hb);replace HN:=Lib.hid (HN.out.below hb);have HH:Hid (Rw hpc 3 v0a1235 (.slice (some ⟨v0a123.heap.size,0,none⟩) 3 3) exL):=Lib.hid (by rw[hw7];exact Rw.of_ro (Ro.new _ _ _) exL rfl hpc_len (by simp[exL]) (by simp[exL,maxLen]) _ _ rfl);clear hw7 hb
    first|refine⟨rfl,hK.out _ _ ?_⟩|refine hK.out _ _ ?_
    clear hK K
    refine⟨fun K hK0=> ?_,trivial⟩
    have hK:=Lib.hid hK0;clear hK0;go_wp2_with fail
    with_reducible refine(collectE vp cs se _ _ _ HP.out HO.out HVE.out HH.out).mono ?_
    rintro e v0a12356 ⟨sc,rfl,ho,hb⟩;replace HW:Hid (Below w12.heap.size w12 v0a12356):=Lib.hid (below_via HW.out hb);replace HP:=Lib.hid (PoR.below HP.out hb);replace HO:=Lib.hid (HO.out.below hb);replace HN:=Lib.hid (HN.out.below hb);replace HH:=Lib.hid (HH.out.below hb);have HC:=Lib.hid ho;clear ho hb;go_wp2_with fail
    first|refine⟨rfl,hK.out _ _ ?_⟩|refine hK.out _ _ ?_
    clear hK K
    repeat (go_big_quiet_step (fail))
    refine wpQuiet_nil ?_
    refine⟨fun K hK0=> ?_,trivial⟩
    have hK:=Lib.hid hK0;clear hK0;go_wp2_with (refine wpList_store_bh (s:=sc) (B:=exC) rfl _ _ rfl rfl rfl HN.out rfl ?_)
    intro v9 hw9;have hon:Onl [nc] v0a12356 v9:=by rw[hw9.out];exact Onl.setRow (Onl.refl _ _) (.inl (by simp)) _
    have HX9:Hid (Bx v9 nc sc exC):=Lib.hid (by rw[hw9.out];exact Bx.row HN.out _ _);have HC9:=Lib.hid (HC.out.onlB hon HN.out).rd;have HW9:Hid (Below w12.heap.size w12 v9):=Lib.hid (belowOnl HW.out hon (by simp only[List.mem_singleton,forall_eq];exact HNC.out) HW.out.size);clear hw9 hon
    first|refine⟨rfl,hK.out _ _ ?_⟩|refine hK.out _ _ ?_
    clear hK K
    repeat (go_big_quiet_step (fail))
    refine wpQuiet_nil ?_;clear _ne rh0 rh1 rh2;go_wp2_with fail
    go_meet
    case rel=>exact⟨_,_,rfl,rfl,rfl,HW9.out,HX9.out,HC9.out⟩
  ·skip
   have hK:=Lib.hid hK0;clear hK0;go_wp2_with fail
   obtain⟨va,hw7⟩:∃W,W=w61.alloc (.cells #[.slice none 0 0,.int .i64 0,.int .i64 0,.int .i64 0,.int .i64 0,.int .i64 0,.slice none 0 0,.slice none 0 0,.slice none 0 0,.slice none 0 0,.bool false,.bool false,.bool false,.int .i64 0,.int .i64 0,.int .i64 0,.int .i64 0,.int .i64 0,.int .i64 0,.int .i64 0,.slice none 0 0,.slice none 0 0,.slice none 0 0,.slice none 0 0,.bool false,.bool false,.bool false,.int .i64 0,.int .i64 0,.slice none 0 0,.slice none 0 0,.slice none 0 0,.slice none 0 0,.int .i64 0,.int .i64 0,.int .i64 0,.int .i64 0,.int .i64 0] 34):=⟨_,rfl⟩
   rw[←hw7];have hb:Below w61.heap.size w61 va:=by rw[hw7];exact(Below.refl _ _).alloc (Nat.le_refl _) _
   obtain⟨nc,hnc⟩:∃n,n=w61.heap.size:=⟨_,rfl⟩
   rw[←hnc];have hnl:w12.heap.size≤nc:=by have h1:=KH_w61.out.below.size;omega
   have HNC:=Lib.hid hnl;have HW:Hid (Below w12.heap.size w12 va):=Lib.hid (below_via KH_w61.out.below hb);have HN:Hid (Bx va nc nilS zeroB):=Lib.hid (by rw[hw7,hnc];exact Ro.new _ _ _);clear hw7 hb hnc hnl
   first|refine⟨rfl,?u,hK.out _ _ ?_⟩|refine⟨?u,hK.out _ _ ?_⟩
   case u=>exact⟨⟨_,(⟨HW.out,HW.out.size,by simp⟩:Kept w12.heap.size w12 w12.heap.size [] va),trivial⟩,rfl⟩
   clear hK K
   refine⟨fun K hK0=> ?_,trivial⟩
   have hK:=Lib.hid hK0;clear hK0;go_wp2_with fail
   with_reducible refine(lpool _).mono ?_
   rintro e va0 ⟨⟨vp,cs,rfl,hp⟩,hb⟩;replace HW:Hid (Below w12.heap.size w12 va0):=Lib.hid (below_via HW.out hb);replace HN:=Lib.hid (HN.out.below hb);have HP:=Lib.hid hp;clear hp hb;go_wp2_with fail
   first|refine⟨rfl,?u,hK.out _ _ ?_⟩|refine⟨?u,hK.out _ _ ?_⟩
   case u=>exact⟨⟨_,(⟨HW.out,HW.out.size,by simp⟩:Kept w12.heap.size w12 w12.heap.size [] va0),trivial⟩,rfl⟩
   clear hK K
   refine⟨fun K hK0=> ?_,trivial⟩
   have hK:=Lib.hid hK0;clear hK0;go_wp2_with fail
   with_reducible refine(lexample _).mono ?_
   rintro e va01 ⟨se,rfl,ho,hb⟩;replace HW:Hid (Below w12.heap.size w12 va01):=Lib.hid (below_via HW.out hb);replace HP:=Lib.hid (PoR.below HP.out hb);replace HN:=Lib.hid (HN.out.below hb);have HO:=Lib.hid ho.rd;clear ho hb;go_wp2_with fail
   first|refine⟨rfl,?u,hK.out _ _ ?_⟩|refine⟨?u,hK.out _ _ ?_⟩
   case u=>exact⟨⟨_,(⟨HW.out,HW.out.size,by simp⟩:Kept w12.heap.size w12 w12.heap.size [] va01),trivial⟩,rfl⟩
   clear hK K
   refine⟨fun K hK0=> ?_,trivial⟩
   have hK:=Lib.hid hK0;clear hK0;go_wp2_with fail
   with_reducible refine(ldies 2 _).mono ?_
   rintro e va012 ⟨rfl,hb⟩;replace HW:Hid (Below w12.heap.size w12 va012):=Lib.hid (below_via HW.out hb);replace HP:=Lib.hid (PoR.below HP.out hb);replace HO:=Lib.hid (HO.out.below hb);replace HN:=Lib.hid (HN.out.below hb);clear hb;go_wp2_with fail
   first|refine⟨rfl,?u,hK.out _ _ ?_⟩|refine⟨?u,hK.out _ _ ?_⟩
   case u=>exact⟨⟨_,(⟨HW.out,HW.out.size,by simp⟩:Kept w12.heap.size w12 w12.heap.size [] va012),trivial⟩,rfl⟩
   clear hK K
   refine⟨fun K hK0=> ?_,trivial⟩
   have hK:=Lib.hid hK0;clear hK0;go_wp2_with fail
   with_reducible refine(ldies 3 _).mono ?_
   rintro e va0123 ⟨rfl,hb⟩;replace HW:Hid (Below w12.heap.size w12 va0123):=Lib.hid (below_via HW.out hb);replace HP:=Lib.hid (PoR.below HP.out hb);replace HO:=Lib.hid (HO.out.below hb);replace HN:=Lib.hid (HN.out.below hb);clear hb;go_wp2_with fail
   first|refine⟨rfl,?u,hK.out _ _ ?_⟩|refine⟨?u,hK.out _ _ ?_⟩
   case u=>exact⟨⟨_,(⟨HW.out,HW.out.size,by simp⟩:Kept w12.heap.size w12 w12.heap.size [] va0123),trivial⟩,rfl⟩
   clear hK K
   refine⟨fun K hK0=> ?_,trivial⟩
   have hK:=Lib.hid hK0;clear hK0;go_wp2_with fail
   obtain⟨va01235,hw7⟩:∃W,W=va0123.alloc (.cells #[.int .i64 1,.int .i64 2,.int .i64 0,.int .i64 1,.int .i64 3,.int .i64 0,.int .i64 3,.int .i64 0,.int .i64 0] 37):=⟨_,rfl⟩
   rw[←hw7];have hb:Below va0123.heap.size va0123 va01235:=by rw[hw7];exact(Below.refl _ _).alloc (Nat.le_refl _) _
   replace HW:Hid (Below w12.heap.size w12 va01235):=Lib.hid (below_via HW.out hb);replace HP:=Lib.hid (PoR.below HP.out hb);replace HO:=Lib.hid (HO.out.below hb);replace HN:=Lib.hid (HN.out.below hb);have HH:Hid (Rw hpc 3 va01235 (.slice (some ⟨va0123.heap.size,0,none⟩) 3 3) exL):=Lib.hid (by rw[hw7];exact Rw.of_ro (Ro.new _ _ _) exL rfl hpc_len (by simp[exL]) (by simp[exL,maxLen]) _ _ rfl);clear hw7 hb
   first|refine⟨rfl,hK.out _ _ ?_⟩|refine hK.out _ _ ?_
   clear hK K
   refine⟨fun K hK0=> ?_,trivial⟩
   have hK:=Lib.hid hK0;clear hK0;go_wp2_with fail
   with_reducible refine(collectE vp cs se _ _ _ HP.out HO.out HVE.out HH.out).mono ?_
   rintro e va012356 ⟨sc,rfl,ho,hb⟩;replace HW:Hid (Below w12.heap.size w12 va012356):=Lib.hid (below_via HW.out hb);replace HP:=Lib.hid (PoR.below HP.out hb);replace HO:=Lib.hid (HO.out.below hb);replace HN:=Lib.hid (HN.out.below hb);replace HH:=Lib.hid (HH.out.below hb);have HC:=Lib.hid ho;clear ho hb;go_wp2_with fail
   first|refine⟨rfl,hK.out _ _ ?_⟩|refine hK.out _ _ ?_
   clear hK K
   repeat (go_big_quiet_step (fail))
   refine wpQuiet_nil ?_
   refine⟨fun K hK0=> ?_,trivial⟩
   have hK:=Lib.hid hK0;clear hK0;go_wp2_with (refine wpList_store_bh (s:=sc) (B:=exC) rfl _ _ rfl rfl rfl HN.out rfl ?_)
   intro v9 hw9;have hon:Onl [nc] va012356 v9:=by rw[hw9.out];exact Onl.setRow (Onl.refl _ _) (.inl (by simp)) _
   have HX9:Hid (Bx v9 nc sc exC):=Lib.hid (by rw[hw9.out];exact Bx.row HN.out _ _);have HC9:=Lib.hid (HC.out.onlB hon HN.out).rd;have HW9:Hid (Below w12.heap.size w12 v9):=Lib.hid (belowOnl HW.out hon (by simp only[List.mem_singleton,forall_eq];exact HNC.out) HW.out.size);clear hw9 hon
   first|refine⟨rfl,hK.out _ _ ?_⟩|refine hK.out _ _ ?_
   clear hK K
   repeat (go_big_quiet_step (fail))
   refine wpQuiet_nil ?_;clear _ne rh0 rh1 rh2;go_wp2_with fail
   go_meet
   case rel=>exact⟨_,_,rfl,rfl,rfl,HW9.out,HX9.out,HC9.out⟩
 obtain⟨wx,rfl⟩:∃W,W=wc:=⟨_,rfl⟩
 obtain⟨nc,sc,rfl,rfl,rfl,hb,hx,hr⟩:=hcut
 have HC14:Hid (w12.heap.size≤wx.heap.size):=Lib.hid (hb.size);replace HB:=Lib.hid (below_via HB.out hb);replace HXu:=Lib.hid (HXu.out.below hb);have HXc:=Lib.hid hx;have HR:=Lib.hid hr;clear hb hx hr;have c30:wx.cell? ⟨nc,30,none⟩=some sc.qu.v:=HXc.out.cell 30
 obtain⟨qa,qc,hq⟩:∃a c,sc.qu.v= .slice a exC.qu.length c:=by
  obtain⟨l,h1,h2,_⟩:=HR.out.qu
  obtain⟨_,a,c,h3,_⟩:=h2.form
  exact⟨a,c,by rw[h3,←h1,List.length_map]⟩
 rw[hq] at c30
 have HQR:Hid (ItR wx (.slice qa exC.qu.length qc) exC.qu):=Lib.hid (hq▸HR.out.qu);clear hq;go_wp2_with fail
 clear c30
 obtain⟨w13,hv⟩:∃X,X=wx.alloc (.cells #[.int .i64 2,.int .i64 3,.int .i64 1] 3):=⟨_,rfl⟩
 rw[←hv];have hb:Below wx.heap.size wx w13:=by rw[hv];exact(Below.refl _ _).alloc (Nat.le_refl _) _
 have HL:Hid (Rw ic 1 w13 (.slice (some ⟨wx.heap.size,0,none⟩) 3 3) [2,3,1]):=Lib.hid (by rw[hv];exact lit3 wx 2 3 1);have HC15:Hid (wx.heap.size≤w13.heap.size):=Lib.hid (hb.size);replace HB:=Lib.hid (below_via HB.out hb);replace HXu:=Lib.hid (HXu.out.below hb);replace HXc:=Lib.hid (HXc.out.below hb);replace HR:=Lib.hid (HR.out.below hb);replace HQR:=Lib.hid (HQR.out.below hb);clear hb hv;with_reducible refine(lided _ _ exC.qu [2,3,1] _ HQR.out HL.out exC_qu (by decide+kernel)).mono ?_
 rintro e w14 ⟨rfl,hb⟩;have HC16:Hid (w13.heap.size≤w14.heap.size):=Lib.hid (hb.size);replace HB:=Lib.hid (below_via HB.out hb);replace HXu:=Lib.hid (HXu.out.below hb);replace HXc:=Lib.hid (HXc.out.below hb);replace HR:=Lib.hid (HR.out.below hb);replace HQR:=Lib.hid (HQR.out.below hb);clear hb HL HQR;go_wp2_with (first|(refine wpList_load_bx _ rfl rfl HXc.out (by kernel_rfl) ?_))
 with_reducible refine(order_ok sc exC _ HR.out HVC.out.i HVC.out.sm HVC.out.tl HVC.out).mono ?_
 rintro e w15 ⟨oa,oc,rfl,hm,hb⟩;have HC17:Hid (w14.heap.size≤w15.heap.size):=Lib.hid (hb.size);replace HB:=Lib.hid (below_via HB.out hb);replace HXu:=Lib.hid (HXu.out.below hb);replace HXc:=Lib.hid (HXc.out.below hb);replace HR:=Lib.hid (HR.out.below hb);have HM:=Lib.hid hm;clear hm hb;go_wp2_with fail
 obtain⟨w16,hv⟩:∃X,X=w15.alloc (.cells #[.int .i64 3,.int .i64 2,.int .i64 1] 3):=⟨_,rfl⟩
 rw[←hv];have hb:Below w15.heap.size w15 w16:=by rw[hv];exact(Below.refl _ _).alloc (Nat.le_refl _) _
 have HL:Hid (Rw ic 1 w16 (.slice (some ⟨w15.heap.size,0,none⟩) 3 3) [3,2,1]):=Lib.hid (by rw[hv];exact lit3 w15 3 2 1);have HC18:Hid (w15.heap.size≤w16.heap.size):=Lib.hid (hb.size);replace HB:=Lib.hid (below_via HB.out hb);replace HXu:=Lib.hid (HXu.out.below hb);replace HXc:=Lib.hid (HXc.out.below hb);replace HR:=Lib.hid (HR.out.below hb);replace HM:=Lib.hid (HM.out.below hb);clear hb hv;with_reducible refine(lided _ _ (ordL exC) [3,2,1] _ HM.out HL.out exC_or (by decide+kernel)).mono ?_
 rintro e w17 ⟨rfl,hb⟩;have HC19:Hid (w16.heap.size≤w17.heap.size):=Lib.hid (hb.size);replace HB:=Lib.hid (below_via HB.out hb);replace HXu:=Lib.hid (HXu.out.below hb);replace HXc:=Lib.hid (HXc.out.below hb);replace HR:=Lib.hid (HR.out.below hb);replace HM:=Lib.hid (HM.out.below hb);clear hb HL HM
 go_upto_region 7 with fail
 go_wp2_with (first|(refine wpList_load_bx _ rfl rfl HXc.out (by kernel_rfl) ?_))
 with_reducible refine(drain_ok sc exC _ HR.out HVC.out).mono ?_
 rintro e w18 ⟨sd,rfl,ho,hb⟩;have HC20:Hid (w17.heap.size≤w18.heap.size):=Lib.hid (hb.size);replace HB:=Lib.hid (below_via HB.out hb);replace HXu:=Lib.hid (HXu.out.below hb);replace HXc:=Lib.hid (HXc.out.below hb);replace HR:=Lib.hid (HR.out.below hb);have HOd:=Lib.hid ho;clear ho hb;go_wp2_with (first|(refine wpList_store_bh rfl _ _ rfl rfl rfl (heap_alloc_new _ _) rfl ?_))
 intro w19 hw0;have hbx:=boxed hw0.out
 obtain⟨nd,hn⟩:∃n,n=w18.heap.size:=⟨_,rfl⟩
 rw[←hn] at hbx ⊢
 have hb:=hbx.1;rw[hn] at hb
 clear hw0;replace HB:=Lib.hid (below_via HB.out hb);replace HXu:=Lib.hid (HXu.out.below hb);replace HXc:=Lib.hid (HXc.out.below hb);replace HOd:=Lib.hid (HOd.out.below hb);replace HR:=Lib.hid (HR.out.below hb);have HXd:Hid (Bx w19 nd sd ((drB exC))):=Lib.hid hbx.2;have HC21:Hid (w18.heap.size≤nd∧nd<w19.heap.size):=Lib.hid (⟨by omega,hbx.2.lt⟩);clear hbx hn hb
 go_upto_region 8 with fail
 go_wp2_with fail
 with_reducible refine(lpool _).mono ?_
 rintro e w20 ⟨⟨vp,cs,rfl,hp⟩,hb⟩;have HC22:Hid (w19.heap.size≤w20.heap.size):=Lib.hid (hb.size);replace HB:=Lib.hid (below_via HB.out hb);replace HXu:=Lib.hid (HXu.out.below hb);replace HXc:=Lib.hid (HXc.out.below hb);replace HXd:=Lib.hid (HXd.out.below hb);replace HOd:=Lib.hid (HOd.out.below hb);replace HR:=Lib.hid (HR.out.below hb);clear hp hb;go_wp2_with fail
 with_reducible refine(lexample _).mono ?_
 rintro e w21 ⟨se,rfl,ho,hb⟩;have HC23:Hid (w20.heap.size≤w21.heap.size):=Lib.hid (hb.size);replace HB:=Lib.hid (below_via HB.out hb);replace HXu:=Lib.hid (HXu.out.below hb);replace HXc:=Lib.hid (HXc.out.below hb);replace HXd:=Lib.hid (HXd.out.below hb);replace HOd:=Lib.hid (HOd.out.below hb);replace HR:=Lib.hid (HR.out.below hb);clear ho hb;go_wp2_with fail
 with_reducible refine(collectN vp cs se exB _).mono ?_
 rintro e w22 ⟨sf,rfl,ho,hb⟩;have HC24:Hid (w21.heap.size≤w22.heap.size):=Lib.hid (hb.size);replace HB:=Lib.hid (below_via HB.out hb);replace HXu:=Lib.hid (HXu.out.below hb);replace HXc:=Lib.hid (HXc.out.below hb);replace HXd:=Lib.hid (HXd.out.below hb);replace HOd:=Lib.hid (HOd.out.below hb);replace HR:=Lib.hid (HR.out.below hb);clear ho hb;go_wp2_with (first|(refine wpList_store_bh rfl _ _ rfl rfl rfl (heap_alloc_new _ _) rfl ?_))
 intro w23 hw0;have hbx:=boxed hw0.out
 obtain⟨nf,hn⟩:∃n,n=w22.heap.size:=⟨_,rfl⟩
 rw[←hn] at hbx ⊢
 have hb:=hbx.1;rw[hn] at hb
 clear hw0;replace HB:=Lib.hid (below_via HB.out hb);replace HXu:=Lib.hid (HXu.out.below hb);replace HXc:=Lib.hid (HXc.out.below hb);replace HXd:=Lib.hid (HXd.out.below hb);replace HOd:=Lib.hid (HOd.out.below hb);replace HR:=Lib.hid (HR.out.below hb);have HXf:Hid (Bx w23 nf sf (zeroB)):=Lib.hid hbx.2;have HC25:Hid (w22.heap.size≤nf∧nf<w23.heap.size):=Lib.hid (⟨by omega,hbx.2.lt⟩);clear hbx hn hb
 go_upto_region 9 with fail
 have c29:w23.cell? ⟨nd,29,none⟩=some sd.st.v:=HXd.out.cell 29;have c30:w23.cell? ⟨nd,30,none⟩=some sd.qu.v:=HXd.out.cell 30
 obtain⟨ta,tc,ht⟩:∃a c,sd.st.v= .slice a (drB exC).st.length c:=by
  obtain⟨l,h1,h2,_⟩:=HOd.out.rd.st
  obtain⟨_,a,c,h3,_⟩:=h2.form
  exact⟨a,c,by rw[h3,←h1,List.length_map]⟩
 obtain⟨qa,qc,hq⟩:∃a c,sd.qu.v= .slice a 0 c:=by
  obtain⟨l,h1,h2,_⟩:=HOd.out.rd.qu
  obtain⟨_,a,c,h3,_⟩:=h2.form
  have h4:l.length=0:=by rw[←List.length_map (f:=Prod.fst),h1,exD_qu];rfl
  exact⟨a,c,by rw[h3,h4]⟩
 rw[ht] at c29
 rw[hq] at c30
 have HQR:Hid (ItR w23 (.slice ta (drB exC).st.length tc) (drB exC).st):=Lib.hid (ht▸HOd.out.rd.st);have HC30:=Lib.hid c30;have HXd0:=Lib.hid HXd.out;clear ht hq c30;go_wp2_with fail
 clear c29
 obtain⟨w24,hv⟩:∃X,X=w23.alloc (.cells #[.int .i64 3,.int .i64 2,.int .i64 1] 3):=⟨_,rfl⟩
 rw[←hv];have hb:Below w23.heap.size w23 w24:=by rw[hv];exact(Below.refl _ _).alloc (Nat.le_refl _) _
 have HL:Hid (Rw ic 1 w24 (.slice (some ⟨w23.heap.size,0,none⟩) 3 3) [3,2,1]):=Lib.hid (by rw[hv];exact lit3 w23 3 2 1);have HC26:Hid (w23.heap.size≤w24.heap.size):=Lib.hid (hb.size);replace HB:=Lib.hid (below_via HB.out hb);replace HXu:=Lib.hid (HXu.out.below hb);replace HXc:=Lib.hid (HXc.out.below hb);replace HXd:=Lib.hid (HXd.out.below hb);replace HXf:=Lib.hid (HXf.out.below hb);replace HOd:=Lib.hid (HOd.out.below hb);replace HR:=Lib.hid (HR.out.below hb);replace HQR:=Lib.hid (HQR.out.below hb);clear hb hv;with_reducible refine(lided _ _ (drB exC).st [3,2,1] _ HQR.out HL.out exD_st (by decide+kernel)).mono ?_
 rintro e w25 ⟨rfl,hb⟩;have HC27:Hid (w24.heap.size≤w25.heap.size):=Lib.hid (hb.size);replace HB:=Lib.hid (below_via HB.out hb);replace HXu:=Lib.hid (HXu.out.below hb);replace HXc:=Lib.hid (HXc.out.below hb);replace HXd:=Lib.hid (HXd.out.below hb);replace HXf:=Lib.hid (HXf.out.below hb);replace HOd:=Lib.hid (HOd.out.below hb);replace HR:=Lib.hid (HR.out.below hb);replace HQR:=Lib.hid (HQR.out.below hb);clear hb HL HQR;have c30:w25.cell? ⟨nd,30,none⟩=some (.slice qa 0 qc):=(by rw[HXd.out.cell 30,←HXd0.out.cell 30];exact HC30.out);go_wp2_with fail
 go_returns
 exact⟨rfl,HB.out⟩
end Go.Proofs.Ytgkgbpapfjjkcaa
