/- The law about full queues: the walk. -/
import Derived.Test.YtgkgbpapfjjkcaaTLq
import Derived.Deep.DeepCutAuto
import Derived.LoopTactic
import Derived.Deep.MidRow
namespace Go.Proofs.Ytgkgbpapfjjkcaa
open Go.RowKit Plain
set_option linter.unusedVariables false
set_option linter.unusedSimpArgs false

theorem rg6_14{P:Program}{B n:Nat}{w0:World}{L:List (Nat×Nat×Value)}{E F:World→Prop}{id:Nat}{Q:Exit→Act→World→Prop}{a:Act}{w:World}{A:Array Oper}{o0 o1 o2 o3 o4 o5 o6 o7 o8 o9 o10 o11 o12:Oper}(hm:P.follows .mixedOrders=true)(hA:A=[o0,o1,o2,o3,o4,o5,o6,o7,o8,o9,o10,o11,o12].toArray)(hB:regOk A [1] [2,3,5,6,7,8,11,12] (.fs [2,3] (.rs [1] (.alt 0 (.altc 4 (.fs [5,6,7,8] (.alt 9 (.altc 10 (.fs [11,12] .done) .stop) .stop)) (.alt 9 (.altc 4 (.fs [5,6,7,8] (.altc 10 (.fs [11,12] .done) .stop)) .stop) .stop)) (.alt 9 (.alt 0 (.altc 4 (.fs [5,6,7,8] (.altc 10 (.fs [11,12] .done) .stop)) .stop) .stop) .stop))))=true)(c:RC B w0 n L E F w)
  (h:∀wk,Kept B w0 n L wk→E wk→F wk→wpQuiet P A (fun _=>True) (fun a0=>wpQuiet P A (fun w' =>∃s:KX B w0 n L E,w' =s.val) (fun a1=>((∀K2:Act→World→Prop,(∀a2 w2,((∀K3:Act→World→Prop,(∀a3 w3,wpQuiet P A (fun _=>True) (fun a4=>((∀K5:Act→World→Prop,(∀a5 w5,((∀K6:Act→World→Prop,(∀a6 w6,wpQuiet P A (fun _=>True) (fun a7=>Q .normal a7 w6) [o11,o12] a6→K6 a6 w6)→wpList P A (fun e a6 w6=>e= .normal∧K6 a6 w6) [o10] a5 w5)∧True)→K5 a5 w5)→wpList P A (fun e a5 w5=>e= .normal∧(∃s:KX B w0 n L E,w5=s.val)∧K5 a5 w5) [o9] a4 w3)∧True)) [o5,o6,o7,o8] a3→K3 a3 w3)→wpList P A (fun e a3 w3=>e= .normal∧K3 a3 w3) [o4] a2 w2)∧(∀K3:Act→World→Prop,(∀a3 w3,((∀K4:Act→World→Prop,(∀a4 w4,wpQuiet P A (fun _=>True) (fun a5=>((∀K6:Act→World→Prop,(∀a6 w6,wpQuiet P A (fun _=>True) (fun a7=>Q .normal a7 w6) [o11,o12] a6→K6 a6 w6)→wpList P A (fun e a6 w6=>e= .normal∧K6 a6 w6) [o10] a5 w4)∧True)) [o5,o6,o7,o8] a4→K4 a4 w4)→wpList P A (fun e a4 w4=>e= .normal∧K4 a4 w4) [o4] a3 w3)∧True)→K3 a3 w3)→wpList P A (fun e a3 w3=>e= .normal∧(∃s:KX B w0 n L E,w3=s.val)∧K3 a3 w3) [o9] a2 w2)∧True)→K2 a2 w2)→wpList P A (fun e a2 w2=>e= .normal∧(∃s:KX B w0 n L E,w2=s.val)∧K2 a2 w2) [o0] a1 wk)∧(∀K2:Act→World→Prop,(∀a2 w2,((∀K3:Act→World→Prop,(∀a3 w3,((∀K4:Act→World→Prop,(∀a4 w4,wpQuiet P A (fun _=>True) (fun a5=>((∀K6:Act→World→Prop,(∀a6 w6,wpQuiet P A (fun _=>True) (fun a7=>Q .normal a7 w6) [o11,o12] a6→K6 a6 w6)→wpList P A (fun e a6 w6=>e= .normal∧K6 a6 w6) [o10] a5 w4)∧True)) [o5,o6,o7,o8] a4→K4 a4 w4)→wpList P A (fun e a4 w4=>e= .normal∧K4 a4 w4) [o4] a3 w3)∧True)→K3 a3 w3)→wpList P A (fun e a3 w3=>e= .normal∧(∃s:KX B w0 n L E,w3=s.val)∧K3 a3 w3) [o0] a2 w2)∧True)→K2 a2 w2)→wpList P A (fun e a2 w2=>e= .normal∧(∃s:KX B w0 n L E,w2=s.val)∧K2 a2 w2) [o9] a1 wk)∧True)) [o1] a0) [o2,o3] a):(Code.region id A true).wp P Q a w:=by
 subst hA;exact wp_reg _ _ _ hm hB c (fun wk k e f=>have g:=h wk k e f;Scr.of_fs _ _ rfl g fun _ g=>Scr.of_rs _ _ rfl g fun _ g=>(Scr.of_alt rfl (g.1 _ fun _ _ g=>g) (fun _ _ g=>(Scr.of_altc rfl (g.1 _ fun _ _ g=>g) (fun _ _ g=>Scr.of_fs _ _ rfl g fun _ g=>(Scr.of_alt rfl (g.1 _ fun _ _ g=>g) (fun _ _ g=>(Scr.of_altc rfl (g.1 _ fun _ _ g=>g) (fun _ _ g=>Scr.of_fs _ _ rfl g fun _ g=>g) trivial)) trivial)) (Scr.of_alt rfl (g.2.1 _ fun _ _ g=>g) (fun _ _ g=>(Scr.of_altc rfl (g.1 _ fun _ _ g=>g) (fun _ _ g=>Scr.of_fs _ _ rfl g fun _ g=>(Scr.of_altc rfl (g.1 _ fun _ _ g=>g) (fun _ _ g=>Scr.of_fs _ _ rfl g fun _ g=>g) trivial)) trivial)) trivial))) (Scr.of_alt rfl (g.2.1 _ fun _ _ g=>g) (fun _ _ g=>(Scr.of_alt rfl (g.1 _ fun _ _ g=>g) (fun _ _ g=>(Scr.of_altc rfl (g.1 _ fun _ _ g=>g) (fun _ _ g=>Scr.of_fs _ _ rfl g fun _ g=>(Scr.of_altc rfl (g.1 _ fun _ _ g=>g) (fun _ _ g=>Scr.of_fs _ _ rfl g fun _ g=>g) trivial)) trivial)) trivial)) trivial)))
set_option maxRecDepth 100000 in
set_option maxHeartbeats 4000000 in
theorem wtf_bad0(many most stk:Int)(w:World)(h1:many<0):Calls Try.prog 6 #[.int .i64 many,.int .i64 most,.int .i64 stk] w fun e w' =>e= .returned (.bool true)∧Below w.heap.size w w':=by
 have t0:decide (many<0)=true:=decide_eq_true h1;clear h1;go_enter Try.func6,Try.ntmps6
 go_upto_region 2 with fail
 go_wp2_with fail
 with_reducible refine(known _).mono ?_
 rintro e w1 ⟨rfl,hb⟩;have HB:=Lib.hid hb;clear hb;go_wp2_with fail
 go_returns
 exact⟨rfl,HB.out⟩
set_option maxRecDepth 100000 in
set_option maxHeartbeats 4000000 in
theorem wtf_bad1(many most stk:Int)(w:World)(h1:¬many<0)(h2:many>210):Calls Try.prog 6 #[.int .i64 many,.int .i64 most,.int .i64 stk] w fun e w' =>e= .returned (.bool true)∧Below w.heap.size w w':=by
 have t0:decide (many<0)=false:=decide_eq_false h1;have t1:decide (many>210)=true:=decide_eq_true h2;clear h1 h2;go_enter Try.func6,Try.ntmps6
 go_upto_region 2 with fail
 go_wp2_with fail
 with_reducible refine(known _).mono ?_
 rintro e w1 ⟨rfl,hb⟩;have HB:=Lib.hid hb;clear hb;go_wp2_with fail
 go_returns
 exact⟨rfl,HB.out⟩
set_option maxRecDepth 100000 in
set_option maxHeartbeats 4000000 in
theorem wtf_bad2(many most stk:Int)(w:World)(h1:¬many<0)(h2:¬many>210)(h3:most<0):Calls Try.prog 6 #[.int .i64 many,.int .i64 most,.int .i64 stk] w fun e w' =>e= .returned (.bool true)∧Below w.heap.size w w':=by
 have t0:decide (many<0)=false:=decide_eq_false h1;have t1:decide (many>210)=false:=decide_eq_false h2;have t2:decide (most<0)=true:=decide_eq_true h3;clear h1 h2 h3;go_enter Try.func6,Try.ntmps6
 go_upto_region 2 with fail
 go_wp2_with fail
 with_reducible refine(known _).mono ?_
 rintro e w1 ⟨rfl,hb⟩;have HB:=Lib.hid hb;clear hb;go_wp2_with fail
 go_returns
 exact⟨rfl,HB.out⟩
set_option maxRecDepth 100000 in
set_option maxHeartbeats 4000000 in
theorem wtf_bad3(many most stk:Int)(w:World)(h1:¬many<0)(h2:¬many>210)(h3:¬most<0)(h4:stk<0):Calls Try.prog 6 #[.int .i64 many,.int .i64 most,.int .i64 stk] w fun e w' =>e= .returned (.bool true)∧Below w.heap.size w w':=by
 have t0:decide (many<0)=false:=decide_eq_false h1;have t1:decide (many>210)=false:=decide_eq_false h2;have t2:decide (most<0)=false:=decide_eq_false h3;have t3:decide (stk<0)=true:=decide_eq_true h4;clear h1 h2 h3 h4;go_enter Try.func6,Try.ntmps6
 go_upto_region 2 with fail
 go_wp2_with fail
 with_reducible refine(known _).mono ?_
 rintro e w1 ⟨rfl,hb⟩;have HB:=Lib.hid hb;clear hb;go_wp2_with fail
 go_returns
 exact⟨rfl,HB.out⟩
set_option maxRecDepth 100000 in
set_option maxHeartbeats 4000000 in
theorem wtf_bad4(many most stk:Int)(w:World)(h1:¬many<0)(h2:¬many>210)(h3:¬most<0)(h4:¬stk<0)(h5:stk>200):Calls Try.prog 6 #[.int .i64 many,.int .i64 most,.int .i64 stk] w fun e w' =>e= .returned (.bool true)∧Below w.heap.size w w':=by
 have t0:decide (many<0)=false:=decide_eq_false h1;have t1:decide (many>210)=false:=decide_eq_false h2;have t2:decide (most<0)=false:=decide_eq_false h3;have t3:decide (stk<0)=false:=decide_eq_false h4;have t4:decide (stk>200)=true:=decide_eq_true h5;clear h1 h2 h3 h4 h5;go_enter Try.func6,Try.ntmps6
 go_upto_region 2 with fail
 go_wp2_with fail
 with_reducible refine(known _).mono ?_
 rintro e w1 ⟨rfl,hb⟩;have HB:=Lib.hid hb;clear hb;go_wp2_with fail
 go_returns
 exact⟨rfl,HB.out⟩
/-- between the happenings -/
def FuL(W:World)(lv i:Value)(n:Nat)(wr:World):Prop:=∃(k:Nat) (a:Option Addr) (c:Nat),k≤n∧i= .int .i64 k∧lv= .slice a k c∧Below W.heap.size W wr∧Ow hpc 3 37 wr W.heap.size (.slice a k c) (exH k)
/-- between the items -/
def FuS(w wo:World)(nb m:Nat)(i:Value)(wr:World):Prop:=∃(k:Nat) (s':Bs),k≤m∧i= .int .i64 k∧Below w.heap.size w wr∧Below wo.heap.size wo wr∧Bx wr nb s' (exS k)∧BdO wo.heap.size wr.heap.size wr s' (exS k)
theorem collectS(v:Value)(cs:List (Cd×List (Int×Nat)))(s:Bs)(m n:Nat)(ha:Option Addr)(hcp:Nat)(most:Int)(w:World)(X:Bd)(dn:Int)(hX:X=exX m n most)(hd:dn=(n:Int)-(min n (min most 200).toNat:Nat))(hm0:0≤most)(hp:PoR w v cs)(h:BdR w s (exS m))(hm:m≤200)(hn:n≤210)(hh:Rw hpc 3 w (.slice ha n hcp) (exH n)):Calls Try.prog 15 #[v,bv s (exS m),.slice ha n hcp,.int .i64 most] w (BrP w X (.int .i64 dn) (.int .i64 0)):=by
 have h1:=collect_ok v cs s (exS m) ha hcp (exH n) most w hm0 h (exS_vb m hm) (PoR.cs hp) (PoR.lt hp) (by rw[exH_len];exact hh) (by rw[exH_len];exact hn) (exH_id n);rw[allS (PoR.wh hp),exT_len,exX_room,exH_len] at h1
 subst hX hd;exact h1
theorem infoH:(Try.prog.info? 37).map (fun i=>(i.zero,i.size,i.bytes))=some (some (.agg #[.int .i64 0,.int .i64 0,.int .i64 0]),3,24):=by kernel_rfl
set_option maxRecDepth 100000 in
set_option maxHeartbeats 4000000 in
theorem wtf_ok(n m:Nat)(most:Int)(w:World)(hn:n≤210)(hm:m≤200)(hmo:0≤most):Calls Try.prog 6 #[.int .i64 (n:Int),.int .i64 most,.int .i64 (m:Int)] w fun e w' =>e= .returned (.bool true)∧Below w.heap.size w w':=by
 have t0:decide ((n:Int)<0)=false:=decide_eq_false (by omega);have t1:decide ((n:Int)>210)=false:=decide_eq_false (by omega);have t2:decide (most<0)=false:=decide_eq_false (by omega);have t3:decide ((m:Int)<0)=false:=decide_eq_false (by omega);have t4:decide ((m:Int)>200)=false:=decide_eq_false (by omega);have HN:=Lib.hid hn;have HM:=Lib.hid hm;have HMO:=Lib.hid hmo;have HB:Hid (Below w.heap.size w w):=Lib.hid (Below.refl _ _);go_enter Try.func6,Try.ntmps6
 go_upto_region 3 with fail
 clear t0 t1 t2 t3 t4;go_wp2_with fail
 go_loopw [7,8] (fun lv i wr=>FuL w lv i n wr) (fun _ i _=>n-(intOf i).toNat)
 case atStart=>exact⟨0,none,0,by omega,rfl,rfl,Below.refl _ _,Ow.nil _ _ _⟩
 case round=>
  obtain⟨k,la,lc,hk,rfl,rfl,hb,ho⟩:=hrel
  replace HB:=Lib.hid hb;have HOW:=Lib.hid ho;clear ho hb
  by_cases hkl:k<n
  case pos=>
   have t1:decide ((k:Int)<(n:Int))=true:=decide_eq_true (by omega);have t1':decide (k<n)=true:=decide_eq_true hkl
   obtain⟨r3,hr3⟩:∃r:Nat,r=k%3:=⟨_,rfl⟩
   have hr3':r3≤2:=by omega
   have m1:Int.tmod (k:Int) 3=(r3:Int):=by rw[hr3];rfl
   have m2:(k:Int)%3=(r3:Int):=by rw[hr3];rfl
   have m3:k%3=r3:=hr3.symm;have HNX:Hid (exH (k+1)=exH k++[⟨1,1+(r3:Int),0⟩]):=Lib.hid (by rw[hr3];exact exH_next k);clear hr3
   go_upto_region 7 with fail
   clear t1 t1';go_wp2_with fail
   with_reducible refine(ldies _ _).mono ?_
   rintro e w1 ⟨rfl,hb⟩;replace HB:=Lib.hid (below_via HB.out hb);replace HOW:=Lib.hid (HOW.out.below hb);clear hb m1 m2 m3;go_wp2_with (at_builtin;refine wpList_append_ow (f:=hpc) (sz:=3) rfl _ _ 44 rfl w.heap.size 37 (.agg #[.int .i64 0,.int .i64 0,.int .i64 0]) 24 Try.underlying44 infoH rfl (by decide) _ (exH k) rfl (HOW.out.below ((Below.refl _ _).alloc (Nat.le_refl _) _)) hpc_ok _ [(⟨1,1+(r3:Int),0⟩:Hp)] rfl (Rw.one2 (f:=hpc) (sz:=3) _ 37 (⟨1,1+(r3:Int),0⟩:Hp) #[.int .i64 1,.int .i64 (1+(r3:Int)),.int .i64 0] rfl 1 _ rfl) ?c2 ?c3 ?c4 ?_)
   case c2=>rw[exH_len];have:=HN.out;simp only[maxLen];simp;omega
   case c3=>rw[exH_len];have:=HN.out;simp;omega
   case c4=>have:=HB.out.size;simp;omega
   intro v8 w8 ho8 hg8 hv8
   obtain⟨va,vc,rfl⟩:=ho8.form
   have hb8:Below w.heap.size w w8:=(HB.out.alloc HB.out.size _).grown hg8 (by have:=HB.out.size;simp;omega) (fun q hq=>(HOW.out.typ q hq).1);rw[←HNX.out,exH_len] at ho8
   rw[show(exH k++[(⟨1,1+(r3:Int),0⟩:Hp)]).length=k+1 by rw[←HNX.out,exH_len]];have HO8:=Lib.hid ho8;have HB8:=Lib.hid hb8;clear ho8 hg8 hv8 hb8;go_wp2_with fail
   go_roundw
   case rel=>exact⟨k+1,va,vc,by omega,by go_num,rfl,HB8.out,HO8.out⟩
   case measure=>simp[intOf];omega
  case neg=>
  obtain rfl:k=n:=by omega
  have t1:decide ((k:Int)<(k:Int))=false:=decide_eq_false (by omega);have t1':decide (k<k)=false:=decide_eq_false (by omega)
  obtain⟨wo,rfl⟩:∃wo,wo=wr:=⟨_,rfl⟩
  have HBO:Hid (Below wo.heap.size wo wo):=Lib.hid (Below.refl _ _);have HCW:Hid (w.heap.size≤wo.heap.size):=Lib.hid HB.out.size
  go_upto_region 8 with fail
  clear t1 t1';go_wp2_with fail
  with_reducible refine(lexample _).mono ?_
  rintro e wr1 ⟨sb,rfl,ho,hb⟩;have HCr1:Hid (wo.heap.size≤wr1.heap.size):=Lib.hid (hb.size);replace HB:=Lib.hid (below_via HB.out hb);replace HBO:=Lib.hid (below_via HBO.out hb);have HOb:=Lib.hid ho;clear ho hb;go_wp2_with (first|(refine wpList_store_bh rfl _ _ rfl rfl rfl (heap_alloc_new _ _) rfl ?_))
  intro wr2 hw0;have hbx:=boxed hw0.out
  obtain⟨nb,hn⟩:∃n,n=wr1.heap.size:=⟨_,rfl⟩
  rw[←hn] at hbx ⊢
  have hb:=hbx.1;rw[hn] at hb
  clear hw0;replace HB:=Lib.hid (below_via HB.out hb);replace HOb:=Lib.hid (HOb.out.below hb);replace HBO:=Lib.hid (below_via HBO.out hb);have HXb:Hid (Bx wr2 nb sb (exB)):=Lib.hid hbx.2;have HCr2:Hid (wr1.heap.size≤nb∧nb<wr2.heap.size):=Lib.hid (⟨by omega,hbx.2.lt⟩);clear hbx hn hb;have HNC:Hid (wo.heap.size≤nb∧w.heap.size≤wo.heap.size):=Lib.hid (by(have o0:=HCW.out;have o1:=HCr1.out;have o2:=HCr2.out;have x0:=HXb.out.lt;omega));have HS0:Hid (FuS w wo nb m (.int .i64 0) wr2):=Lib.hid ⟨0,sb,Nat.zero_le _,rfl,HB.out,HBO.out,by rw[exS_zero];exact HXb.out,by rw[exS_zero];exact HOb.out.mono (Nat.le_refl _) (by(have o0:=HCW.out;have o1:=HCr1.out;have o2:=HCr2.out;have x0:=HXb.out.lt;omega))⟩;clear HB HBO HXb HOb HCr1 HCr2;go_wp2_with fail
  go_loopw [10] (fun i wr=>FuS w wo nb m i wr) (fun i _=>m-(intOf i).toNat)
  case atStart=>exact HS0.out
  case round=>
   obtain⟨j,s',hj,rfl,hb,hbo,hx,ho⟩:=hrel
   have HB:=Lib.hid hb;have HBO:=Lib.hid hbo;have HXb:=Lib.hid hx;have HOk:=Lib.hid ho;have HWS:Hid (wo.heap.size≤wr.heap.size):=Lib.hid hbo.size
   by_cases hjm:j<m
   case pos=>
    have t1:decide ((j:Int)<(m:Int))=true:=decide_eq_true (by omega);have t1':decide (j<m)=true:=decide_eq_true hjm
    obtain⟨L,hL,hox,hot⟩:=ho.st
    obtain⟨qa,qc,hqv⟩:=hox.1.form
    have hll2:L.length=j:=by
     rw[←List.length_map (f:=Prod.fst),hL]
     show(List.replicate j exI).length=j
     rw[List.length_replicate]
    rw[hqv,hll2] at hox
    rw[hll2] at hqv
    have k29:wr.cell? ⟨nb,29,none⟩=some (.slice qa j qc):=by rw[←hqv];exact hx.cell 29
    have HLQ:=Lib.hid hL;have HLL:=Lib.hid hll2;have HOXQ:=Lib.hid hox;have HOT:=Lib.hid hot;have HQV:=Lib.hid hqv;have HJ:=Lib.hid hjm;clear hx ho hb hbo hL hox hot hqv hll2 HS0
    go_upto_region 12 with fail
    clear t1 t1';go_wp2_with (at_builtin;refine wpList_append_ow (f:=itc) (sz:=5) rfl _ _ 30 rfl wo.heap.size 60 (.agg #[.int .i64 0,.int .i64 0,.int .i64 0,.int .i64 0,.slice none 0 0]) 56 Try.underlying30 infoX rfl (by decide) _ L rfl (HOXQ.out.1.below ((Below.refl _ _).alloc (Nat.le_refl _) _)) itc_ok _ [nilI exI] rfl (Rw.one2 (f:=itc) (sz:=5) _ 60 (nilI exI) #[.int .i64 0,.int .i64 1,.int .i64 0,.int .i64 0,.slice none 0 0] rfl 1 _ rfl) ?c2 ?c3 ?c4 ?_)
    case c2=>have h1:=HLL.out;have h2:=HM.out;simp only[maxLen];simp;omega
    case c3=>have h1:=HLL.out;have h2:=HM.out;simp;omega
    case c4=>have h1:=HWS.out;simp;omega
    intro v8 w8 ho8 hg8 hv8
    obtain⟨va,vc,rfl⟩:=ho8.form
    obtain⟨n1,hn1⟩:∃n1,n1=(L++[nilI exI]).length:=⟨_,rfl⟩
    rw[←hn1] at ho8 hv8 ⊢
    have hgz:wr.grownBy w8 (Value.slice qa j qc).ownBlock:=grown_trans (grown_below ((Below.refl _ _).alloc (Nat.le_refl _) _)) hg8;have hrow:∀q,(Value.slice qa j qc).ownBlock=some q→wo.heap.size≤q∧q<wr.heap.size:=fun q hq=>⟨(HOXQ.out.blk hq).1,(HOXQ.out.blk hq).2.1⟩
    have hrt:=(HOXQ.out).1.typ
    have hxb:Bx w8 nb s' (exS j):=HXb.out.grown hgz (fun e=>by
     obtain⟨_,_,cur,h1⟩:=hrt nb e
     have h2:wr.heap[nb]? =some (.cells (bcells s' (exS j)) 34 (0,0)):=HXb.out;rw[h1] at h2
     simp at h2)
    have hb8:Below w.heap.size w w8:=HB.out.grown hgz HB.out.size (fun q hq=>by have h1:=(hrow _ hq).1;have h2:=HNC.out.2;omega);have hbo8:Below wo.heap.size wo w8:=HBO.out.grown hgz HBO.out.size (fun q hq=>(hrow _ hq).1)
    have hq8:ItO wo.heap.size w8.heap.size w8 (.slice va n1 vc) ((exS j).st++[exI]):=ItO.grew (m:=[nilI exI]) HLQ.out HOXQ.out HOT.out ho8 hgz (fun x hx=>by
     have e:=List.mem_singleton.1 hx;subst e
     exact⟨.inl rfl,rfl⟩) hgz.size
    have ho2:=HOk.out.newSt (Nat.le_refl _) ⟨va,n1,vc⟩ _ (by rw[HQV.out];exact hgz) hq8 (by
     rw[HQV.out];rcases hv8 with h1|h1
     ·exact .inl h1
     ·exact .inr ⟨_,h1,by simp⟩)
    have heq:({exS j with st:=(exS j).st++[exI]}:Bd)=exS (j+1):=(exS_next j).symm;rw[heq] at ho2
    have HEQ:=Lib.hid heq;replace HOk:=Lib.hid ho2;replace HB:=Lib.hid hb8;replace HBO:=Lib.hid hbo8;replace HXb:=Lib.hid hxb;have HCz:Hid (wo.heap.size≤w8.heap.size):=Lib.hid hbo8.size;have d29:w8.cell? ⟨nb,29,none⟩=some (s'.st.v):=hxb.cell 29;have f29:w8.frozen? ⟨nb,29,none⟩=false:=hxb.free 29;clear ho8 hg8 hv8 hrow hrt hxb hb8 hbo8 hq8 ho2 HOT hn1 HOXQ hgz k29 heq
    go_upto_region 11 with fail
    obtain⟨w9,hw⟩:∃X,X=w8.setCell ⟨nb,29,none⟩ (.slice va n1 vc):=⟨_,rfl⟩
    rw[←hw];have hon:Onl [nb] w8 w9:=by rw[hw];exact Onl.setCell (Onl.refl _ _) (.inl (by simp)) _
    have hx:Bx w9 nb ({s' with st:=⟨va,n1,vc⟩}) (exS (j+1)):=by rw[←HEQ.out,hw];exact HXb.out.put 29 _ rfl
    clear hw d29 f29;have hlo:w.heap.size≤nb:=by(have o0:=HNC.out;have o1:=HCz.out;have x0:=HXb.out.lt;omega)
    have hls:w.heap.size≤w8.heap.size:=HB.out.size;replace HB:=Lib.hid (belowOnl HB.out hon (by simp only[List.mem_singleton,forall_eq];exact hlo) hls);replace HBO:=Lib.hid (belowOnl HBO.out hon (by simp only[List.mem_singleton,forall_eq];(have o0:=HNC.out;have o1:=HCz.out;have x0:=HXb.out.lt;omega)) HBO.out.size);replace HOk:=Lib.hid (HOk.out.onlB hon HXb.out);have HCq1:Hid (w8.heap.size≤w9.heap.size):=Lib.hid (hon.size);clear hlo hls;replace HXb:=Lib.hid hx;clear hx hon;have HON:Hid (BdO wo.heap.size w9.heap.size w9 ({s' with st:=⟨va,n1,vc⟩}) (exS (j+1))):=Lib.hid (HOk.out.mono (Nat.le_refl _) (by(have o0:=HNC.out;have o1:=HCz.out;have o2:=HCq1.out;have x0:=HXb.out.lt;omega)));have hjm:=HJ.out;go_wp2_with fail
    go_roundw
    case rel=>exact⟨j+1,_,by omega,by go_num,HB.out,HBO.out,HXb.out,HON.out⟩
    case measure=>simp[intOf];omega
   case neg=>
   obtain rfl:j=m:=by omega
   have t1:decide ((j:Int)<(j:Int))=false:=decide_eq_false (by omega);have t1':decide (j<j)=false:=decide_eq_false (by omega);clear hx ho hb hbo HS0
   obtain⟨rm,hrm⟩:∃rm,rm=min k (min most 200).toNat:=⟨_,rfl⟩
   have HRM:=Lib.hid hrm
   obtain⟨dn,hdn⟩:∃d:Int,d=(k:Int)-(rm:Nat):=⟨_,rfl⟩
   have HDN:=Lib.hid hdn
   obtain⟨X,hX⟩:∃X,X=exX j k most:=⟨_,rfl⟩
   have HXE:=Lib.hid hX;have HVX:Hid (VB X):=Lib.hid (by rw[hX];exact exX_vb k most HM.out);have HQX:Hid (X.qu.length=rm):=Lib.hid (by rw[hX,hrm];exact exX_qu);have HSX:Hid ((drB X).st.length=min 200 (j+rm)):=Lib.hid (by rw[hX,hrm];exact exY_st);clear hrm hdn hX
   go_upto_region 13 with fail
   clear t1 t1'
   go_cut [11] (fun s0 wx=>s0= .int .i64 (rm:Nat)∧wx=wr)
   case first=>
    by_cases a1:(200:Int)<most
    ·have a1':(200:Int)<most:=a1
     by_cases a3:(200:Int)<(k:Int)
     ·have a3':(200:Int)<(k:Int):=a3
      have a3n:200<k:=by omega
      go_wp2_with fail
      go_meet
      case rel=>exact⟨val_int (by rw[HRM.out];omega),rfl⟩
     ·have a3':¬(200:Int)<(k:Int):=a3
      have a3n:¬200<k:=by omega
      go_wp2_with fail
      go_meet
      case rel=>exact⟨val_int (by rw[HRM.out];omega),rfl⟩
    ·have a1':¬(200:Int)<most:=a1
     by_cases a3:most<(k:Int)
     ·have a3':most<(k:Int):=a3
      go_wp2_with fail
      go_meet
      case rel=>exact⟨val_int (by have:=HMO.out;rw[HRM.out];omega),rfl⟩
     ·have a3':¬most<(k:Int):=a3
      go_wp2_with fail
      go_meet
      case rel=>exact⟨val_int (by have:=HMO.out;rw[HRM.out];omega),rfl⟩
   case rest=>
    obtain⟨wq,rfl⟩:∃W,W=wc:=⟨_,rfl⟩
    obtain⟨rfl,rfl⟩:=hcut
    go_upto_region 14 with fail
    go_cut [12,13,14] (fun s2 s3 s4 wx=>∃nc sc,s2= .pointer (some ⟨nc,0,none⟩)∧s3= .int .i64 dn∧s4= .int .i64 0∧Below wq.heap.size wq wx∧Bx wx nc sc X∧BdR wx sc X)
    case first=>
     have HBI:Hid (Below wq.heap.size wq wq):=Lib.hid (Below.refl _ _);have HDN2:Hid (dn=(k:Int)-(min k (min most 200).toNat:Nat)):=Lib.hid (by rw[HDN.out,HRM.out]);refine rg6_14 (w0:=wq) (B:=wq.heap.size) (n:=wq.heap.size) (L:=[]) (by kernel_rfl) rfl (by kernel_rfl) (.t ⟨by go_grown,by go_size,(by simp[go_sem]<;>omega)⟩) (fun w61 K_w61 E_w61 F_w61=> ?_);have _ne:Nonempty (KX (wq.heap.size) wq (wq.heap.size) [] (fun _=>True)):=⟨⟨_,K_w61,E_w61⟩⟩;have qb0:∀W',(∃s':KX (wq.heap.size) wq (wq.heap.size) [] (fun _=>True),W' =s'.val)→Bx W' nb s' (exS j):=by rintro _ ⟨s2,rfl⟩;exact HXb.out.below s2.kept.below
     repeat (first|(go_big_quiet_want;(apply quiet_load_bx _ rfl rfl qb0);(focus(simp[go_sem];rfl));go_big_quiet_on)|go_big_quiet_step (fail))
     refine wpQuiet_nil ?_
     repeat (first|(go_big_quiet_want;(apply quiet_load_bx _ rfl rfl qb0);(focus(simp[go_sem];rfl));go_big_quiet_on)|go_big_quiet_step (fail))
     refine wpQuiet_nil ?_;have KH_w61:=Lib.hid K_w61;have hw_w61:=K_w61.below;have hz_w61:=K_w61.size;clear K_w61;clear E_w61 F_w61
     refine⟨fun K hK0=> ?_,fun K hK0=> ?_,trivial⟩
     ·skip
      have hK:=Lib.hid hK0;clear hK0;go_wp2_with fail
      with_reducible refine(lpool _).mono ?_
      rintro e v0 ⟨⟨vp,cs,rfl,hp⟩,hb⟩;have HW:Hid (Below wq.heap.size wq v0):=Lib.hid (below_via KH_w61.out.below hb);have HP:=Lib.hid hp;clear hp hb;go_wp2_with fail
      first|refine⟨rfl,?u,hK.out _ _ ?_⟩|refine⟨?u,hK.out _ _ ?_⟩
      case u=>exact⟨⟨_,(⟨HW.out,HW.out.size,by simp⟩:Kept wq.heap.size wq wq.heap.size [] v0),trivial⟩,rfl⟩
      clear hK K
      refine⟨fun K hK0=> ?_,fun K hK0=> ?_,trivial⟩
      ·skip
       have hK:=Lib.hid hK0;clear hK0;go_wp2_with fail
       with_reducible refine(collectS vp cs s' j k la lc most _ X dn HXE.out HDN2.out HMO.out HP.out ((HOk.out.rd.below HBI.out).below HW.out) HM.out HN.out (((HOW.out.below HBO.out).below HW.out).rw hpc_len)).mono ?_
       rintro e v06 ⟨sc,rfl,ho,hb⟩;replace HW:Hid (Below wq.heap.size wq v06):=Lib.hid (below_via HW.out hb);replace HP:=Lib.hid (PoR.below HP.out hb);have HC:=Lib.hid ho;clear ho hb;go_wp2_with fail
       first|refine⟨rfl,hK.out _ _ ?_⟩|refine hK.out _ _ ?_
       clear hK K
       repeat (first|(go_big_quiet_want;(apply quiet_load_bx _ rfl rfl qb0);(focus(simp[go_sem];rfl));go_big_quiet_on)|go_big_quiet_step (fail))
       refine wpQuiet_nil ?_
       refine⟨fun K hK0=> ?_,trivial⟩
       have hK:=Lib.hid hK0;clear hK0;go_wp2_with fail
       obtain⟨v06a,hw7⟩:∃W,W=v06.alloc (.cells #[.slice none 0 0,.int .i64 0,.int .i64 0,.int .i64 0,.int .i64 0,.int .i64 0,.slice none 0 0,.slice none 0 0,.slice none 0 0,.slice none 0 0,.bool false,.bool false,.bool false,.int .i64 0,.int .i64 0,.int .i64 0,.int .i64 0,.int .i64 0,.int .i64 0,.int .i64 0,.slice none 0 0,.slice none 0 0,.slice none 0 0,.slice none 0 0,.bool false,.bool false,.bool false,.int .i64 0,.int .i64 0,.slice none 0 0,.slice none 0 0,.slice none 0 0,.slice none 0 0,.int .i64 0,.int .i64 0,.int .i64 0,.int .i64 0,.int .i64 0] 34):=⟨_,rfl⟩
       rw[←hw7];have hb:Below v06.heap.size v06 v06a:=by rw[hw7];exact(Below.refl _ _).alloc (Nat.le_refl _) _
       obtain⟨nc,hnc⟩:∃n,n=v06.heap.size:=⟨_,rfl⟩
       rw[←hnc];have hnl:wq.heap.size≤nc:=by have h1:=HW.out.size;omega
       have HNL:=Lib.hid hnl;replace HW:Hid (Below wq.heap.size wq v06a):=Lib.hid (below_via HW.out hb);replace HP:=Lib.hid (PoR.below HP.out hb);replace HC:=Lib.hid (HC.out.below hb);have HN2:Hid (Bx v06a nc nilS zeroB):=Lib.hid (by rw[hw7,hnc];exact Ro.new _ _ _);clear hw7 hb hnc hnl
       first|refine⟨rfl,?u,hK.out _ _ ?_⟩|refine⟨?u,hK.out _ _ ?_⟩
       case u=>exact⟨⟨_,(⟨HW.out,HW.out.size,by simp⟩:Kept wq.heap.size wq wq.heap.size [] v06a),trivial⟩,rfl⟩
       clear hK K
       refine⟨fun K hK0=> ?_,trivial⟩
       have hK:=Lib.hid hK0;clear hK0;go_wp2_with (refine wpList_store_bh (s:=sc) (B:=X) rfl _ _ rfl rfl rfl HN2.out rfl ?_)
       intro v9 hw9;have hon:Onl [nc] v06a v9:=by rw[hw9.out];exact Onl.setRow (Onl.refl _ _) (.inl (by simp)) _
       have HX9:Hid (Bx v9 nc sc X):=Lib.hid (by rw[hw9.out];exact Bx.row HN2.out _ _);have HC9:=Lib.hid (HC.out.onlB hon HN2.out).rd;have HW9:Hid (Below wq.heap.size wq v9):=Lib.hid (belowOnl HW.out hon (by simp only[List.mem_singleton,forall_eq];exact HNL.out) HW.out.size);clear hw9 hon
       first|refine⟨rfl,hK.out _ _ ?_⟩|refine hK.out _ _ ?_
       clear hK K
       repeat (first|(go_big_quiet_want;(apply quiet_load_bx _ rfl rfl qb0);(focus(simp[go_sem];rfl));go_big_quiet_on)|go_big_quiet_step (fail))
       refine wpQuiet_nil ?_;clear _ne qb0;go_wp2_with fail
       go_meet
       case rel=>exact⟨_,_,rfl,rfl,rfl,HW9.out,HX9.out,HC9.out⟩
      ·skip
       have hK:=Lib.hid hK0;clear hK0;go_wp2_with fail
       obtain⟨v0a,hw7⟩:∃W,W=v0.alloc (.cells #[.slice none 0 0,.int .i64 0,.int .i64 0,.int .i64 0,.int .i64 0,.int .i64 0,.slice none 0 0,.slice none 0 0,.slice none 0 0,.slice none 0 0,.bool false,.bool false,.bool false,.int .i64 0,.int .i64 0,.int .i64 0,.int .i64 0,.int .i64 0,.int .i64 0,.int .i64 0,.slice none 0 0,.slice none 0 0,.slice none 0 0,.slice none 0 0,.bool false,.bool false,.bool false,.int .i64 0,.int .i64 0,.slice none 0 0,.slice none 0 0,.slice none 0 0,.slice none 0 0,.int .i64 0,.int .i64 0,.int .i64 0,.int .i64 0,.int .i64 0] 34):=⟨_,rfl⟩
       rw[←hw7];have hb:Below v0.heap.size v0 v0a:=by rw[hw7];exact(Below.refl _ _).alloc (Nat.le_refl _) _
       obtain⟨nc,hnc⟩:∃n,n=v0.heap.size:=⟨_,rfl⟩
       rw[←hnc];have hnl:wq.heap.size≤nc:=by have h1:=HW.out.size;omega
       have HNL:=Lib.hid hnl;replace HW:Hid (Below wq.heap.size wq v0a):=Lib.hid (below_via HW.out hb);replace HP:=Lib.hid (PoR.below HP.out hb);have HN2:Hid (Bx v0a nc nilS zeroB):=Lib.hid (by rw[hw7,hnc];exact Ro.new _ _ _);clear hw7 hb hnc hnl
       first|refine⟨rfl,?u,hK.out _ _ ?_⟩|refine⟨?u,hK.out _ _ ?_⟩
       case u=>exact⟨⟨_,(⟨HW.out,HW.out.size,by simp⟩:Kept wq.heap.size wq wq.heap.size [] v0a),trivial⟩,rfl⟩
       clear hK K
       refine⟨fun K hK0=> ?_,trivial⟩
       have hK:=Lib.hid hK0;clear hK0;go_wp2_with fail
       with_reducible refine(collectS vp cs s' j k la lc most _ X dn HXE.out HDN2.out HMO.out HP.out ((HOk.out.rd.below HBI.out).below HW.out) HM.out HN.out (((HOW.out.below HBO.out).below HW.out).rw hpc_len)).mono ?_
       rintro e v0a6 ⟨sc,rfl,ho,hb⟩;replace HW:Hid (Below wq.heap.size wq v0a6):=Lib.hid (below_via HW.out hb);replace HP:=Lib.hid (PoR.below HP.out hb);replace HN2:=Lib.hid (HN2.out.below hb);have HC:=Lib.hid ho;clear ho hb;go_wp2_with fail
       first|refine⟨rfl,hK.out _ _ ?_⟩|refine hK.out _ _ ?_
       clear hK K
       repeat (first|(go_big_quiet_want;(apply quiet_load_bx _ rfl rfl qb0);(focus(simp[go_sem];rfl));go_big_quiet_on)|go_big_quiet_step (fail))
       refine wpQuiet_nil ?_
       refine⟨fun K hK0=> ?_,trivial⟩
       have hK:=Lib.hid hK0;clear hK0;go_wp2_with (refine wpList_store_bh (s:=sc) (B:=X) rfl _ _ rfl rfl rfl HN2.out rfl ?_)
       intro v9 hw9;have hon:Onl [nc] v0a6 v9:=by rw[hw9.out];exact Onl.setRow (Onl.refl _ _) (.inl (by simp)) _
       have HX9:Hid (Bx v9 nc sc X):=Lib.hid (by rw[hw9.out];exact Bx.row HN2.out _ _);have HC9:=Lib.hid (HC.out.onlB hon HN2.out).rd;have HW9:Hid (Below wq.heap.size wq v9):=Lib.hid (belowOnl HW.out hon (by simp only[List.mem_singleton,forall_eq];exact HNL.out) HW.out.size);clear hw9 hon
       first|refine⟨rfl,hK.out _ _ ?_⟩|refine hK.out _ _ ?_
       clear hK K
       repeat (first|(go_big_quiet_want;(apply quiet_load_bx _ rfl rfl qb0);(focus(simp[go_sem];rfl));go_big_quiet_on)|go_big_quiet_step (fail))
       refine wpQuiet_nil ?_;clear _ne qb0;go_wp2_with fail
       go_meet
       case rel=>exact⟨_,_,rfl,rfl,rfl,HW9.out,HX9.out,HC9.out⟩
     ·skip
      have hK:=Lib.hid hK0;clear hK0;go_wp2_with fail
      obtain⟨va,hw7⟩:∃W,W=w61.alloc (.cells #[.slice none 0 0,.int .i64 0,.int .i64 0,.int .i64 0,.int .i64 0,.int .i64 0,.slice none 0 0,.slice none 0 0,.slice none 0 0,.slice none 0 0,.bool false,.bool false,.bool false,.int .i64 0,.int .i64 0,.int .i64 0,.int .i64 0,.int .i64 0,.int .i64 0,.int .i64 0,.slice none 0 0,.slice none 0 0,.slice none 0 0,.slice none 0 0,.bool false,.bool false,.bool false,.int .i64 0,.int .i64 0,.slice none 0 0,.slice none 0 0,.slice none 0 0,.slice none 0 0,.int .i64 0,.int .i64 0,.int .i64 0,.int .i64 0,.int .i64 0] 34):=⟨_,rfl⟩
      rw[←hw7];have hb:Below w61.heap.size w61 va:=by rw[hw7];exact(Below.refl _ _).alloc (Nat.le_refl _) _
      obtain⟨nc,hnc⟩:∃n,n=w61.heap.size:=⟨_,rfl⟩
      rw[←hnc];have hnl:wq.heap.size≤nc:=by have h1:=KH_w61.out.below.size;omega
      have HNL:=Lib.hid hnl;have HW:Hid (Below wq.heap.size wq va):=Lib.hid (below_via KH_w61.out.below hb);have HN2:Hid (Bx va nc nilS zeroB):=Lib.hid (by rw[hw7,hnc];exact Ro.new _ _ _);clear hw7 hb hnc hnl
      first|refine⟨rfl,?u,hK.out _ _ ?_⟩|refine⟨?u,hK.out _ _ ?_⟩
      case u=>exact⟨⟨_,(⟨HW.out,HW.out.size,by simp⟩:Kept wq.heap.size wq wq.heap.size [] va),trivial⟩,rfl⟩
      clear hK K
      refine⟨fun K hK0=> ?_,trivial⟩
      have hK:=Lib.hid hK0;clear hK0;go_wp2_with fail
      with_reducible refine(lpool _).mono ?_
      rintro e va0 ⟨⟨vp,cs,rfl,hp⟩,hb⟩;replace HW:Hid (Below wq.heap.size wq va0):=Lib.hid (below_via HW.out hb);replace HN2:=Lib.hid (HN2.out.below hb);have HP:=Lib.hid hp;clear hp hb;go_wp2_with fail
      first|refine⟨rfl,?u,hK.out _ _ ?_⟩|refine⟨?u,hK.out _ _ ?_⟩
      case u=>exact⟨⟨_,(⟨HW.out,HW.out.size,by simp⟩:Kept wq.heap.size wq wq.heap.size [] va0),trivial⟩,rfl⟩
      clear hK K
      refine⟨fun K hK0=> ?_,trivial⟩
      have hK:=Lib.hid hK0;clear hK0;go_wp2_with fail
      with_reducible refine(collectS vp cs s' j k la lc most _ X dn HXE.out HDN2.out HMO.out HP.out ((HOk.out.rd.below HBI.out).below HW.out) HM.out HN.out (((HOW.out.below HBO.out).below HW.out).rw hpc_len)).mono ?_
      rintro e va06 ⟨sc,rfl,ho,hb⟩;replace HW:Hid (Below wq.heap.size wq va06):=Lib.hid (below_via HW.out hb);replace HP:=Lib.hid (PoR.below HP.out hb);replace HN2:=Lib.hid (HN2.out.below hb);have HC:=Lib.hid ho;clear ho hb;go_wp2_with fail
      first|refine⟨rfl,hK.out _ _ ?_⟩|refine hK.out _ _ ?_
      clear hK K
      repeat (first|(go_big_quiet_want;(apply quiet_load_bx _ rfl rfl qb0);(focus(simp[go_sem];rfl));go_big_quiet_on)|go_big_quiet_step (fail))
      refine wpQuiet_nil ?_
      refine⟨fun K hK0=> ?_,trivial⟩
      have hK:=Lib.hid hK0;clear hK0;go_wp2_with (refine wpList_store_bh (s:=sc) (B:=X) rfl _ _ rfl rfl rfl HN2.out rfl ?_)
      intro v9 hw9;have hon:Onl [nc] va06 v9:=by rw[hw9.out];exact Onl.setRow (Onl.refl _ _) (.inl (by simp)) _
      have HX9:Hid (Bx v9 nc sc X):=Lib.hid (by rw[hw9.out];exact Bx.row HN2.out _ _);have HC9:=Lib.hid (HC.out.onlB hon HN2.out).rd;have HW9:Hid (Below wq.heap.size wq v9):=Lib.hid (belowOnl HW.out hon (by simp only[List.mem_singleton,forall_eq];exact HNL.out) HW.out.size);clear hw9 hon
      first|refine⟨rfl,hK.out _ _ ?_⟩|refine hK.out _ _ ?_
      clear hK K
      repeat (first|(go_big_quiet_want;(apply quiet_load_bx _ rfl rfl qb0);(focus(simp[go_sem];rfl));go_big_quiet_on)|go_big_quiet_step (fail))
      refine wpQuiet_nil ?_;clear _ne qb0;go_wp2_with fail
      go_meet
      case rel=>exact⟨_,_,rfl,rfl,rfl,HW9.out,HX9.out,HC9.out⟩
    case rest=>
     obtain⟨wx,rfl⟩:∃W,W=wc:=⟨_,rfl⟩
     obtain⟨nc,sc,rfl,rfl,rfl,hb,hx,hr⟩:=hcut
     have HCQ:Hid (wq.heap.size≤wx.heap.size):=Lib.hid hb.size;replace HB:=Lib.hid (below_via HB.out hb);have HXc:=Lib.hid hx;have HR:=Lib.hid hr;clear hb hx hr HXb HOk HBO
     obtain⟨qa,qc,hq⟩:∃a c,sc.qu.v= .slice a rm c:=by
      obtain⟨l,h1,h2,_⟩:=HR.out.qu
      obtain⟨_,a,c,h3,_⟩:=h2.form
      exact⟨a,c,by rw[h3,←HQX.out,←h1,List.length_map]⟩
     have c30:wx.cell? ⟨nc,30,none⟩=some (.slice qa rm qc):=by rw[←hq];exact HXc.out.cell 30
     have hws:wrap64 ((k:Int)-(rm:Int))=dn:=by have h1:=HN.out;have h2:=HRM.out;rw[HDN.out];unfold wrap64;omega
     have u1:((rm:Int) !=(rm:Int))=false:=by simp
     have u1':(rm !=rm)=false:=by simp
     have u2:(dn !=dn)=false:=by simp
     clear hq;go_wp2_with (first|(refine wpList_load_bx _ rfl rfl HXc.out (by kernel_rfl) ?_))
     clear c30 hws u1 u1' u2;with_reducible refine(brvalid sc (X) _ HR.out HVX.out.i HVX.out.sm).mono ?_
     rintro e wy1 ⟨⟨r,rfl,hr⟩,hb⟩;have HCy1:Hid (wx.heap.size≤wy1.heap.size):=Lib.hid (hb.size);replace HB:=Lib.hid (below_via HB.out hb);replace HXc:=Lib.hid (HXc.out.below hb);replace HR:=Lib.hid (HR.out.below hb);obtain rfl:r=true:=hr.2 HVX.out;clear hr hb
     go_upto_region 17 with fail
     go_wp2_with (first|(refine wpList_load_bx _ rfl rfl HXc.out (by kernel_rfl) ?_))
     with_reducible refine(drain_ok sc X _ HR.out HVX.out).mono ?_
     rintro e wy2 ⟨sy,rfl,ho,hb⟩;have HCy2:Hid (wy1.heap.size≤wy2.heap.size):=Lib.hid (hb.size);replace HB:=Lib.hid (below_via HB.out hb);replace HXc:=Lib.hid (HXc.out.below hb);replace HR:=Lib.hid (HR.out.below hb);have HOy:=Lib.hid ho;clear ho hb;go_wp2_with (first|(refine wpList_store_bh rfl _ _ rfl rfl rfl (heap_alloc_new _ _) rfl ?_))
     intro wy3 hw0;have hbx:=boxed hw0.out
     obtain⟨ny,hn⟩:∃n,n=wy2.heap.size:=⟨_,rfl⟩
     rw[←hn] at hbx ⊢
     have hb:=hbx.1;rw[hn] at hb
     clear hw0;replace HB:=Lib.hid (below_via HB.out hb);replace HXc:=Lib.hid (HXc.out.below hb);replace HOy:=Lib.hid (HOy.out.below hb);replace HR:=Lib.hid (HR.out.below hb);have HXy:Hid (Bx wy3 ny sy ((drB X))):=Lib.hid hbx.2;have HCy3:Hid (wy2.heap.size≤ny∧ny<wy3.heap.size):=Lib.hid (⟨by omega,hbx.2.lt⟩);clear hbx hn hb;have HVY:Hid (VB (drB X)):=Lib.hid (VB.dr HVX.out)
     obtain⟨ta,tc,ht⟩:∃a c,sy.st.v= .slice a (drB X).st.length c:=by
      obtain⟨l,h1,h2,_⟩:=HOy.out.rd.st
      obtain⟨_,a,c,h3,_⟩:=h2.form
      exact⟨a,c,by rw[h3,←h1,List.length_map]⟩
     obtain⟨ya,yc,hy⟩:∃a c,sy.qu.v= .slice a 0 c:=by
      obtain⟨l,h1,h2,_⟩:=HOy.out.rd.qu
      obtain⟨_,a,c,h3,_⟩:=h2.form
      have h4:l.length=0:=by rw[←List.length_map (f:=Prod.fst),h1];rfl
      exact⟨a,c,by rw[h3,h4]⟩
     obtain⟨ls,hls⟩:∃n,n=(drB X).st.length:=⟨_,rfl⟩
     rw[←hls] at ht
     have c30:wy3.cell? ⟨ny,30,none⟩=some (.slice ya 0 yc):=by rw[←hy];exact HXy.out.cell 30
     have c29:wy3.cell? ⟨ny,29,none⟩=some (.slice ta ls tc):=by rw[←ht];exact HXy.out.cell 29
     have hle:ls=min 200 (j+rm):=hls.trans HSX.out;have HLE:=Lib.hid hle;have HRL:Hid (rm≤200):=Lib.hid (by rw[HRM.out];omega);have hw5:wrap64 ((j:Int)+(rm:Int))=(j:Int)+(rm:Int):=by have h1:=HRL.out;have h2:=HM.out;unfold wrap64;omega
     clear ht hy hls hle
     go_upto_region 18 with fail
     by_cases a5:(j:Int)+(rm:Int)<200
     ·have a5':(j:Int)+(rm:Int)<200:=a5
      have e1:((ls:Int)==(j:Int)+(rm:Int))=true:=beq_iff_eq.2 (by have:=HLE.out;omega);have e2:(ls==j+rm)=true:=beq_iff_eq.2 (by have:=HLE.out;omega);have e3:(ls:Int)=(j:Int)+(rm:Int):=by have:=HLE.out;omega
      clear a5;go_wp2_with (first|(refine wpList_load_bx _ rfl rfl HXy.out (by kernel_rfl) ?_))
      clear c29 c30 e1 e2 e3 hw5 a5';with_reducible refine(brvalid sy (drB X) _ HOy.out.rd HVY.out.i HVY.out.sm).mono ?_
      rintro e wy4 ⟨⟨r,rfl,hr⟩,hb⟩;have HCy4:Hid (wy3.heap.size≤wy4.heap.size):=Lib.hid (hb.size);replace HB:=Lib.hid (below_via HB.out hb);replace HXc:=Lib.hid (HXc.out.below hb);replace HXy:=Lib.hid (HXy.out.below hb);replace HOy:=Lib.hid (HOy.out.below hb);replace HR:=Lib.hid (HR.out.below hb);obtain rfl:r=true:=hr.2 HVY.out;clear hr hb;go_wp2_with fail
      with_reducible refine(known _).mono ?_
      rintro e wy5 ⟨rfl,hb⟩;have HCy5:Hid (wy4.heap.size≤wy5.heap.size):=Lib.hid (hb.size);replace HB:=Lib.hid (below_via HB.out hb);replace HXc:=Lib.hid (HXc.out.below hb);replace HXy:=Lib.hid (HXy.out.below hb);replace HOy:=Lib.hid (HOy.out.below hb);replace HR:=Lib.hid (HR.out.below hb);clear hb;go_wp2_with fail
      go_returns
      exact⟨rfl,HB.out⟩
     ·have a5':¬(j:Int)+(rm:Int)<200:=a5
      have e1:((ls:Int)==200)=true:=beq_iff_eq.2 (by have:=HLE.out;omega);have e2:(ls==200)=true:=beq_iff_eq.2 (by have:=HLE.out;omega);have e3:(ls:Int)=200:=by have:=HLE.out;omega
      clear a5;go_wp2_with (first|(refine wpList_load_bx _ rfl rfl HXy.out (by kernel_rfl) ?_))
      clear c29 c30 e1 e2 e3 hw5 a5';with_reducible refine(brvalid sy (drB X) _ HOy.out.rd HVY.out.i HVY.out.sm).mono ?_
      rintro e wy4 ⟨⟨r,rfl,hr⟩,hb⟩;have HCy4:Hid (wy3.heap.size≤wy4.heap.size):=Lib.hid (hb.size);replace HB:=Lib.hid (below_via HB.out hb);replace HXc:=Lib.hid (HXc.out.below hb);replace HXy:=Lib.hid (HXy.out.below hb);replace HOy:=Lib.hid (HOy.out.below hb);replace HR:=Lib.hid (HR.out.below hb);obtain rfl:r=true:=hr.2 HVY.out;clear hr hb;go_wp2_with fail
      with_reducible refine(known _).mono ?_
      rintro e wy5 ⟨rfl,hb⟩;have HCy5:Hid (wy4.heap.size≤wy5.heap.size):=Lib.hid (hb.size);replace HB:=Lib.hid (below_via HB.out hb);replace HXc:=Lib.hid (HXc.out.below hb);replace HXy:=Lib.hid (HXy.out.below hb);replace HOy:=Lib.hid (HOy.out.below hb);replace HR:=Lib.hid (HR.out.below hb);clear hb;go_wp2_with fail
      go_returns
      exact⟨rfl,HB.out⟩
theorem wtf(many most stk:Int)(w:World):Calls Try.prog 6 #[.int .i64 many,.int .i64 most,.int .i64 stk] w fun e w' =>e= .returned (.bool true)∧Below w.heap.size w w':=by
 by_cases h1:many<0
 ·exact wtf_bad0 many most stk w h1
 by_cases h2:many>210
 ·exact wtf_bad1 many most stk w h1 h2
 by_cases h3:most<0
 ·exact wtf_bad2 many most stk w h1 h2 h3
 by_cases h4:stk<0
 ·exact wtf_bad3 many most stk w h1 h2 h3 h4
 by_cases h5:stk>200
 ·exact wtf_bad4 many most stk w h1 h2 h3 h4 h5
 obtain⟨n,rfl⟩:∃n:Nat,many=n:=⟨many.toNat,by omega⟩
 obtain⟨m,rfl⟩:∃m:Nat,stk=m:=⟨stk.toNat,by omega⟩
 exact wtf_ok n m most w (by omega) (by omega) (by omega)
end Go.Proofs.Ytgkgbpapfjjkcaa
