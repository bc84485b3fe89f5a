/- Many creatures that die at once: the law's walk. -/
import Derived.Test.YtpbepnpnpopmfaaUVq
import Derived.Test.YtpbepnpnpopmfaaUKn
import Derived.Deep.DeepCutAuto
import Derived.LoopTactic
import Derived.Deep.MidRow
import Derived.Deep.OwnRows
namespace Go.Proofs.Ytpbepnpnpopmfaa
open Go.RowKit Plain
set_option linter.unusedVariables false
set_option linter.unusedSimpArgs false

theorem rg3_13{P:Program}{B n:Nat}{w0:World}{L:List (Nat×Nat×Value)}{E F:World→Prop}{id:Nat}{Q:Exit→Act→World→Prop}{a:Act}{w:World}{A:Array Oper}{o0 o1 o2 o3 o4 o5 o6 o7 o8 o9 o10 o11 o12:Oper}(hm:P.follows .mixedOrders=true)(hA:A=[o0,o1,o2,o3,o4,o5,o6,o7,o8,o9,o10,o11,o12].toArray)(hB:regOk A [1,3] [2,5,6,7,8,11,12] (.fs [2] (.rs [1,3] (.alt 0 (.altc 4 (.fs [5,6,7,8] (.alt 9 (.altc 10 (.fs [11,12] .done) .stop) .stop)) (.alt 9 (.altc 4 (.fs [5,6,7,8] (.altc 10 (.fs [11,12] .done) .stop)) .stop) .stop)) (.alt 9 (.alt 0 (.altc 4 (.fs [5,6,7,8] (.altc 10 (.fs [11,12] .done) .stop)) .stop) .stop) .stop))))=true)(c:RC B w0 n L E F w)
  (h:∀wk,Kept B w0 n L wk→E wk→F wk→wpQuiet P A (fun _=>True) (fun a0=>wpQuiet P A (fun w' =>∃s:KX B w0 n L E,w' =s.val) (fun a1=>((∀K2:Act→World→Prop,(∀a2 w2,((∀K3:Act→World→Prop,(∀a3 w3,wpQuiet P A (fun _=>True) (fun a4=>((∀K5:Act→World→Prop,(∀a5 w5,((∀K6:Act→World→Prop,(∀a6 w6,wpQuiet P A (fun _=>True) (fun a7=>Q .normal a7 w6) [o11,o12] a6→K6 a6 w6)→wpList P A (fun e a6 w6=>e= .normal∧K6 a6 w6) [o10] a5 w5)∧True)→K5 a5 w5)→wpList P A (fun e a5 w5=>e= .normal∧(∃s:KX B w0 n L E,w5=s.val)∧K5 a5 w5) [o9] a4 w3)∧True)) [o5,o6,o7,o8] a3→K3 a3 w3)→wpList P A (fun e a3 w3=>e= .normal∧K3 a3 w3) [o4] a2 w2)∧(∀K3:Act→World→Prop,(∀a3 w3,((∀K4:Act→World→Prop,(∀a4 w4,wpQuiet P A (fun _=>True) (fun a5=>((∀K6:Act→World→Prop,(∀a6 w6,wpQuiet P A (fun _=>True) (fun a7=>Q .normal a7 w6) [o11,o12] a6→K6 a6 w6)→wpList P A (fun e a6 w6=>e= .normal∧K6 a6 w6) [o10] a5 w4)∧True)) [o5,o6,o7,o8] a4→K4 a4 w4)→wpList P A (fun e a4 w4=>e= .normal∧K4 a4 w4) [o4] a3 w3)∧True)→K3 a3 w3)→wpList P A (fun e a3 w3=>e= .normal∧(∃s:KX B w0 n L E,w3=s.val)∧K3 a3 w3) [o9] a2 w2)∧True)→K2 a2 w2)→wpList P A (fun e a2 w2=>e= .normal∧(∃s:KX B w0 n L E,w2=s.val)∧K2 a2 w2) [o0] a1 wk)∧(∀K2:Act→World→Prop,(∀a2 w2,((∀K3:Act→World→Prop,(∀a3 w3,((∀K4:Act→World→Prop,(∀a4 w4,wpQuiet P A (fun _=>True) (fun a5=>((∀K6:Act→World→Prop,(∀a6 w6,wpQuiet P A (fun _=>True) (fun a7=>Q .normal a7 w6) [o11,o12] a6→K6 a6 w6)→wpList P A (fun e a6 w6=>e= .normal∧K6 a6 w6) [o10] a5 w4)∧True)) [o5,o6,o7,o8] a4→K4 a4 w4)→wpList P A (fun e a4 w4=>e= .normal∧K4 a4 w4) [o4] a3 w3)∧True)→K3 a3 w3)→wpList P A (fun e a3 w3=>e= .normal∧(∃s:KX B w0 n L E,w3=s.val)∧K3 a3 w3) [o0] a2 w2)∧True)→K2 a2 w2)→wpList P A (fun e a2 w2=>e= .normal∧(∃s:KX B w0 n L E,w2=s.val)∧K2 a2 w2) [o9] a1 wk)∧True)) [o1,o3] a0) [o2] a):(Code.region id A true).wp P Q a w:=by
 subst hA;exact wp_reg _ _ _ hm hB c (fun wk k e f=>have g:=h wk k e f;Scr.of_fs _ _ rfl g fun _ g=>Scr.of_rs _ _ rfl g fun _ g=>(Scr.of_alt rfl (g.1 _ fun _ _ g=>g) (fun _ _ g=>(Scr.of_altc rfl (g.1 _ fun _ _ g=>g) (fun _ _ g=>Scr.of_fs _ _ rfl g fun _ g=>(Scr.of_alt rfl (g.1 _ fun _ _ g=>g) (fun _ _ g=>(Scr.of_altc rfl (g.1 _ fun _ _ g=>g) (fun _ _ g=>Scr.of_fs _ _ rfl g fun _ g=>g) trivial)) trivial)) (Scr.of_alt rfl (g.2.1 _ fun _ _ g=>g) (fun _ _ g=>(Scr.of_altc rfl (g.1 _ fun _ _ g=>g) (fun _ _ g=>Scr.of_fs _ _ rfl g fun _ g=>(Scr.of_altc rfl (g.1 _ fun _ _ g=>g) (fun _ _ g=>Scr.of_fs _ _ rfl g fun _ g=>g) trivial)) trivial)) trivial))) (Scr.of_alt rfl (g.2.1 _ fun _ _ g=>g) (fun _ _ g=>(Scr.of_alt rfl (g.1 _ fun _ _ g=>g) (fun _ _ g=>(Scr.of_altc rfl (g.1 _ fun _ _ g=>g) (fun _ _ g=>Scr.of_fs _ _ rfl g fun _ g=>(Scr.of_altc rfl (g.1 _ fun _ _ g=>g) (fun _ _ g=>Scr.of_fs _ _ rfl g fun _ g=>g) trivial)) trivial)) trivial)) trivial)))
set_option maxRecDepth 100000 in
set_option maxHeartbeats 4000000 in
theorem wtg_bad0(a b c:Int)(w:World)(h:a>25):Calls Try.prog 3 #[.int .u8 a,.int .u8 b,.int .u8 c] w fun e w' =>e= .returned (.bool true)∧Below w.heap.size w w':=by
 have t0:decide (a>25)=true:=decide_eq_true (by omega);clear h;go_enter Try.func3,Try.ntmps3;go_wp2_with fail
 with_reducible refine(known _).mono ?_
 rintro e w1 ⟨rfl,hb⟩;have HB:=Lib.hid hb;clear hb;go_wp2_with fail
 go_returns
 exact⟨rfl,HB.out⟩
set_option maxRecDepth 100000 in
set_option maxHeartbeats 4000000 in
theorem wtg_bad1(a b c:Int)(w:World)(h:¬a>25)(h1:b>20):Calls Try.prog 3 #[.int .u8 a,.int .u8 b,.int .u8 c] w fun e w' =>e= .returned (.bool true)∧Below w.heap.size w w':=by
 have t0:decide (a>25)=false:=decide_eq_false (by omega);have t1:decide (b>20)=true:=decide_eq_true (by omega);clear h h1;go_enter Try.func3,Try.ntmps3;go_wp2_with fail
 with_reducible refine(known _).mono ?_
 rintro e w1 ⟨rfl,hb⟩;have HB:=Lib.hid hb;clear hb;go_wp2_with fail
 go_returns
 exact⟨rfl,HB.out⟩
set_option maxRecDepth 100000 in
set_option maxHeartbeats 4000000 in
theorem wtg_bad2(a b c:Int)(w:World)(h:¬a>25)(h1:¬b>20)(h2:c>40):Calls Try.prog 3 #[.int .u8 a,.int .u8 b,.int .u8 c] w fun e w' =>e= .returned (.bool true)∧Below w.heap.size w w':=by
 have t0:decide (a>25)=false:=decide_eq_false (by omega);have t1:decide (b>20)=false:=decide_eq_false (by omega);have t2:decide (c>40)=true:=decide_eq_true (by omega);clear h h1 h2;go_enter Try.func3,Try.ntmps3;go_wp2_with fail
 with_reducible refine(known _).mono ?_
 rintro e w1 ⟨rfl,hb⟩;have HB:=Lib.hid hb;clear hb;go_wp2_with fail
 go_returns
 exact⟨rfl,HB.out⟩
theorem made_int(n:Nat):(madeCells #[Value.int .i64 0] n).toList=(List.replicate n (0:Int)).flatMap ic:=by
 have e:(List.replicate n (0:Int)).flatMap ic=List.replicate n (Value.int .i64 0):=by
  induction n with
  |zero=>rfl
  |succ n ih=>rw[List.replicate_succ,List.flatMap_cons,ih];rfl
 rw[e];apply List.ext_getElem
 ·simp[madeCells]
 ·intro i h1 h2
  simp[madeCells,Nat.mod_one]
theorem gnew(n:Nat)(v0 v1:Value)(w:World)(hn:n≤25)(h0:Rw ic 1 w v0 (List.replicate n 0))(h1:Rw ic 1 w v1 [1]):Calls Try.prog 6 #[.int .i64 9,.agg #[v0,v1]] w (BrA w (dgB n 0) (.int .i64 0)):=rnew 9 (List.replicate n 0) [1] v0 v1 w h0 h1 (by omega) (fun c hc=>by rw[List.eq_of_mem_replicate hc];omega) (by decide) (by rw[List.length_replicate];simp;omega)
theorem gmv(n i:Nat)(z:Int)(s:Bs)(w:World)(hn:n≤25)(hi:i<n)(hz:((i+1:Nat):Int)=z)(h:BdR w s (dgB n i)):Calls Try.prog 7 #[bv s (dgB n i),.int .i64 z,.int .i64 2] w (CpA w (mvB (dgB n i) i (mkO 0 i 0) 0 2)):=by
 subst hz
 obtain⟨f1,f2,f3,f4,f5⟩:=dg_facts hn hi
 exact rmove2 s (dgB n i) i (mkO 0 i 0) 0 w h f4 f5 f1 f2 (by omega) rfl
theorem gob{n i:Nat}(hn:n≤25)(hi:i<n):(mvB (dgB n i) i (mkO 0 i 0) 0 2).ob[i]? =some (rsO (mkO 0 i 0) 2)∧(mvB (dgB n i) i (mkO 0 i 0) 0 2).ob.length=n+1:=by
 obtain⟨f1,f2,f3,f4,f5⟩:=dg_facts hn hi
 have e:(mvB (dgB n i) i (mkO 0 i 0) 0 2).ob=(dgB n i).ob.set i (rsO (mkO 0 i 0) 2):=rfl;rw[e,List.length_set,List.getElem?_set_self (by rw[f3];omega)]
 exact⟨rfl,f3⟩
theorem gck(v:Value)(a:Nat)(s:Bs)(n m t:Nat)(w:World)(hn:n≤25)(hm:m≤20)(ht:t≤40)(hc:CsR w v (csP a))(h:BdR w s (dgW n m)):Calls Try.prog 8 #[v,bv s (dgW n m),.int .i64 t] w (BrP w (ckB (csP a) (dgW n m) t) (.int .i64 n) (.int .i64 0)):=by
 have h1:=check_ok v (csP a) s (dgW n m) t w hc (csP_ci a) (csP_lt a) h (dgW_vb hn hm) (by omega) (by show(dgB n n).ob.length≤210;rw[(dg_fin hn).2.1];omega);rw[(dg_res a hn hm ht).1] at h1
 exact h1
theorem gsi(a1:Option Addr)(c1:Nat)(id:Int)(w:World)(h1:Rw tc 2 w (.slice a1 0 c1) ([]:List Tg)):Calls Try.prog 10 #[.agg #[.int .i64 0,.int .i64 id,.int .i64 0,.int .i64 0,.slice a1 0 c1],.agg #[.int .i64 0,.int .i64 id,.int .i64 0,.int .i64 0,.slice none 0 0]] w fun e w' =>e= .returned (.bool true)∧Below w.heap.size w w':=rsameitem a1 none c1 0 ⟨0,id,0,0,[]⟩ w h1 (Rw.nil _)
def DgI(w:World)(m n:Nat)(v:Value)(wr:World):Prop:=∃i:Nat,m≤i∧i≤n∧v= .int .i64 i∧Below w.heap.size w wr
def DgL(w we:World)(nb n:Nat)(v:Value)(wr:World):Prop:=∃(i:Nat) (s':Bs),i≤n∧v= .int .i64 i∧Below w.heap.size w wr∧Below we.heap.size we wr∧Bx wr nb s' (dgB n i)∧BdO we.heap.size wr.heap.size wr s' (dgB n i)
def DgQ(w we:World)(nb n m:Nat)(v:Value)(wr:World):Prop:=∃(j:Nat) (s':Bs),j≤m∧v= .int .i64 j∧Below w.heap.size w wr∧Below we.heap.size we wr∧Bx wr nb s' (dgW n j)∧BdO we.heap.size wr.heap.size wr s' (dgW n j)
set_option maxRecDepth 100000 in
set_option maxHeartbeats 4000000 in
theorem wtg_ok(n m t:Nat)(w:World)(hn:n≤25)(hm:m≤20)(ht:t≤40):Calls Try.prog 3 #[.int .u8 (n:Int),.int .u8 (m:Int),.int .u8 (t:Int)] w fun e w' =>e= .returned (.bool true)∧Below w.heap.size w w':=by
 have t0:decide ((n:Int)>25)=false:=decide_eq_false (by omega);have t1:decide ((m:Int)>20)=false:=decide_eq_false (by omega);have t2:decide ((t:Int)>40)=false:=decide_eq_false (by omega);have HN:=Lib.hid hn;have HM:=Lib.hid hm;have HT:=Lib.hid ht;have HB:Hid (Below w.heap.size w w):=Lib.hid (Below.refl _ _);have hmk:=fun w=>run_make_row' (P:=Try.prog) 26 3 (.int .i64 0) 8 Try.underlying26 (by kernel_rfl) rfl .u8 .u8 n (by omega) (by omega) w
 go_enter Try.func3,Try.ntmps3
 go_upto_region 3 with fail
 clear t0 t1 t2;go_wp2_with fail
 obtain⟨we,hwe⟩:∃W,W=((w.alloc (.cells (madeCells #[.int .i64 0] n) 3)).alloc (.cells #[.int .i64 1] 3)):=⟨_,rfl⟩
 rw[←hwe];have b1:Below w.heap.size w (w.alloc (.cells (madeCells #[.int .i64 0] n) 3)):=(Below.refl _ _).alloc (Nat.le_refl _) _;have b2:Below (w.alloc (.cells (madeCells #[.int .i64 0] n) 3)).heap.size (w.alloc (.cells (madeCells #[.int .i64 0] n) 3)) we:=by rw[hwe];exact(Below.refl _ _).alloc (Nat.le_refl _) _
 have hb:=below_via b1 b2
 have HD0:Hid (Rw ic 1 we (.slice (some ⟨w.heap.size,0,none⟩) n n) (List.replicate n 0)):=Lib.hid (by
  have h1:=Ow.lit (f:=ic) (sz:=1) w 3 (List.replicate n (0:Int)) (madeCells #[.int .i64 0] n) (made_int n) ic_len w.heap.size (Nat.le_refl _) (by rw[List.length_replicate];simp[maxLen];omega);rw[List.length_replicate] at h1
  exact(h1.rw ic_len).below b2)
 have HD1:Hid (Rw ic 1 we (.slice (some ⟨w.heap.size+1,0,none⟩) 1 1) [1]):=Lib.hid (by
  have h1:=Rw.one2 (f:=ic) (sz:=1) (w.alloc (.cells (madeCells #[.int .i64 0] n) 3)) 3 (1:Int) #[.int .i64 1] rfl 1 (w.heap.size+1) (by simp);rw[←hwe] at h1
  exact h1)
 clear hmk;replace HB:=Lib.hid (below_via HB.out hb);have HC1:Hid (w.heap.size≤we.heap.size):=Lib.hid (hb.size);have HBE:Hid (Below we.heap.size we we):=Lib.hid (Below.refl _ _);clear hwe b1 b2 hb;with_reducible refine(gnew n _ _ _ HN.out HD0.out HD1.out).mono ?_
 rintro e w1 ⟨sb,rfl,ho,hb⟩;have HC2:Hid (we.heap.size≤w1.heap.size):=Lib.hid (hb.size);replace HB:=Lib.hid (below_via HB.out hb);replace HBE:=Lib.hid (below_via HBE.out hb);have HOb:=Lib.hid ho;clear ho hb;clear HD0 HD1;go_wp2_with (first|(refine wpList_store_bh rfl _ _ rfl rfl rfl (heap_alloc_new _ _) rfl ?_))
 intro w2 hw0;have hbx:=boxed hw0.out
 obtain⟨nb,hn⟩:∃n,n=w1.heap.size:=⟨_,rfl⟩
 rw[←hn] at hbx ⊢
 have hb:=hbx.1;rw[hn] at hb
 clear hw0;replace HB:=Lib.hid (below_via HB.out hb);replace HOb:=Lib.hid (HOb.out.below hb);replace HBE:=Lib.hid (below_via HBE.out hb);have HXb:Hid (Bx w2 nb sb ((dgB n 0))):=Lib.hid hbx.2;have HC3:Hid (w1.heap.size≤nb∧nb<w2.heap.size):=Lib.hid (⟨by omega,hbx.2.lt⟩);clear hbx hn hb;have HNB:Hid (w.heap.size≤we.heap.size∧we.heap.size≤nb):=Lib.hid (by(have o0:=HC1.out;have o1:=HC2.out;have o2:=HC3.out;have x0:=HXb.out.lt;omega));have HO1:Hid (BdO we.heap.size w2.heap.size w2 sb (dgB n 0)):=Lib.hid (HOb.out.mono (Nat.le_refl _) (by(have o0:=HC1.out;have o1:=HC2.out;have o2:=HC3.out;have x0:=HXb.out.lt;omega)));clear HOb HC1 HC2 HC3;go_wp2_with fail
 go_loopw [9] (fun v wr=>DgL w we nb n v wr) (fun v _=>n-(intOf v).toNat)
 case atStart=>exact⟨0,sb,by omega,rfl,HB.out,HBE.out,HXb.out,HO1.out⟩
 case round=>
  obtain⟨i,s',hi,rfl,hb,hbe,hx,ho⟩:=hrel
  replace HB:=Lib.hid hb;replace HBE:=Lib.hid hbe;replace HXb:=Lib.hid hx;replace HO1:=Lib.hid ho;clear hb hbe hx ho
  by_cases hin:i<n
  case pos=>
   have HWB:Hid (nb<wr.heap.size∧we.heap.size≤wr.heap.size):=Lib.hid ⟨HXb.out.lt,HBE.out.size⟩;have HIN:=Lib.hid hin;have t1:decide ((i:Int)<(n:Int))=true:=decide_eq_true (by omega);have t1':decide (i<n)=true:=decide_eq_true hin
   go_upto_region 7 with fail
   clear t1 t1';go_wp2_with (first|(refine wpList_load_bx _ rfl rfl HXb.out (by kernel_rfl) ?_))
   with_reducible refine(gmv n i _ s' _ HN.out HIN.out (by push_cast;rfl) HO1.out.rd).mono ?_
   rintro e wy1 ⟨sd,rfl,ho,hb⟩;have HCy1:Hid (wr.heap.size≤wy1.heap.size):=Lib.hid (hb.size);replace HB:=Lib.hid (below_via HB.out hb);replace HXb:=Lib.hid (HXb.out.below hb);replace HBE:=Lib.hid (below_via HBE.out hb);have HOd:=Lib.hid ho;clear ho hb;go_wp2_with (first|(refine wpList_store_bh (s:=sd) (B:=(mvB (dgB n i) i (mkO 0 i 0) 0 2)) rfl _ _ rfl rfl rfl HXb.out rfl ?_))
   intro wy2 hw0;have hon:Onl [nb] wy1 wy2:=by rw[hw0.out];exact Onl.setRow (Onl.refl _ _) (.inl (by simp)) _
   have hx:Bx wy2 (nb) sd ((mvB (dgB n i) i (mkO 0 i 0) 0 2)):=by rw[hw0.out];exact Bx.row HXb.out _ _
   clear hw0;have hlo:w.heap.size≤nb:=by(have o0:=HNB.out;have o1:=HWB.out;have o2:=HCy1.out;have x0:=HXb.out.lt;omega)
   have hls:w.heap.size≤wy1.heap.size:=HB.out.size;replace HB:=Lib.hid (belowOnl HB.out hon (by simp only[List.mem_singleton,forall_eq];exact hlo) hls);replace HBE:=Lib.hid (belowOnl HBE.out hon (by simp only[List.mem_singleton,forall_eq];(have o0:=HNB.out;have o1:=HWB.out;have o2:=HCy1.out;have x0:=HXb.out.lt;omega)) HBE.out.size);replace HOd:=Lib.hid (HOd.out.onlB hon HXb.out);have HCy2:Hid (wy1.heap.size≤wy2.heap.size):=Lib.hid (hon.size);clear hlo hls;replace HXb:=Lib.hid hx;clear hx hon
   obtain⟨g,cap,hov,hg1,hg2,hg3⟩:=Ox.pos HOd.out.ob (by rw[(gob HN.out HIN.out).2];omega)
   obtain⟨ln,hln⟩:∃l,l=(mvB (dgB n i) i (mkO 0 i 0) 0 2).ob.length:=⟨_,rfl⟩
   rw[←hln] at hov
   have i2:(i:Int)<(ln:Int):=by rw[hln,(gob HN.out HIN.out).2];omega
   have i1:(0:Int)≤(i:Int):=by omega
   have HOV:=Lib.hid hov;have HGL:Hid ((wr.heap.size)≤g∧g<(wy1.heap.size)):=Lib.hid ⟨hg1,hg2⟩;have c0:wy2.cell? ⟨nb,0,none⟩=some (.slice (some ⟨g,0,none⟩) ln cap):=(HXb.out.cell 0).trans (congrArg some hov);clear hov hg1 hg2 hg3 hln
   go_upto_region 8 with fail
   have cq:wy2.cell? ⟨g,i*12+11,none⟩=some (.bool false):=(HOd.out.cellOb HOV.out (k:=i) (j:=11) (x:=(rsO (mkO 0 i 0) 2)) ((gob HN.out HIN.out).1) rfl (i*12+11) rfl).1;have fq:wy2.frozen? ⟨g,i*12+11,none⟩=false:=(HOd.out.cellOb HOV.out (k:=i) (j:=11) (x:=(rsO (mkO 0 i 0) 2)) (u:= .bool false) ((gob HN.out HIN.out).1) rfl (i*12+11) rfl).2;go_wp2_with fail
   obtain⟨wst,hw⟩:∃W,W=wy2.setCell ⟨g,i*12+11,none⟩ (.bool true):=⟨_,rfl⟩
   rw[←hw];have hon:Onl [g] wy2 wst:=by rw[hw];exact Onl.setCell (Onl.refl _ _) (.inl (by simp)) _
   have hbo:BdO (wr.heap.size) (wy1.heap.size) wst sd ((dgB n (i+1))):=by rw[hw];exact HOd.out.setC HOV.out (k:=i) (j:=11) (x:=(rsO (mkO 0 i 0) 2)) (x':=(dmO (rsO (mkO 0 i 0) 2))) ((gob HN.out HIN.out).1) (by decide) rfl (i*12+11) rfl
   have hgl:=HGL.out;clear hw cq fq;replace HB:=Lib.hid (belowOnl HB.out hon (by simp only[List.mem_singleton,forall_eq];(have o0:=HNB.out;have o1:=HWB.out;have o2:=HCy1.out;have o3:=HCy2.out;have x0:=HXb.out.lt;omega)) HB.out.size);replace HXb:=Lib.hid (HXb.out.onl hon (by simp only[List.mem_singleton];(have o0:=HNB.out;have o1:=HWB.out;have o2:=HCy1.out;have o3:=HCy2.out;have x0:=HXb.out.lt;omega)));replace HBE:=Lib.hid (belowOnl HBE.out hon (by simp only[List.mem_singleton,forall_eq];(have o0:=HNB.out;have o1:=HWB.out;have o2:=HCy1.out;have o3:=HCy2.out;have x0:=HXb.out.lt;omega)) HBE.out.size);replace HOd:=Lib.hid hbo;have HCy3:Hid (wy2.heap.size≤wst.heap.size):=Lib.hid (hon.size);clear hon hbo hgl;replace HXb:Hid (Bx wst (nb) sd ((dgB n (i+1)))):=HXb;have HON:Hid (BdO we.heap.size wst.heap.size wst sd (dgB n (i+1))):=Lib.hid (HOd.out.mono (by(have o0:=HNB.out;have o1:=HWB.out;have o2:=HCy1.out;have o3:=HCy2.out;have o4:=HCy3.out;have x0:=HXb.out.lt;omega)) (by(have o0:=HNB.out;have o1:=HWB.out;have o2:=HCy1.out;have o3:=HCy2.out;have o4:=HCy3.out;have x0:=HXb.out.lt;omega)));clear c0 i1 i2
   go_roundw
   case rel=>exact⟨i+1,sd,by omega,by go_num,HB.out,HBE.out,HXb.out,HON.out⟩
   case measure=>simp[intOf];omega
  case neg=>
  obtain rfl:n=i:=by omega
  have t1:decide ((n:Int)<(n:Int))=false:=decide_eq_false (by omega);have t1':decide (n<n)=false:=decide_eq_false (by omega);rw[←dgW_zero n HN.out (dg_qu HN.out)] at HXb HO1
  have HS0:Hid (DgQ w we nb n m (.int .i64 0) wr):=Lib.hid ⟨0,s',Nat.zero_le _,rfl,HB.out,HBE.out,HXb.out,HO1.out⟩;clear HB HBE HXb HO1 hin hi
  go_upto_region 9 with fail
  clear t1 t1';go_wp2_with fail
  go_loopw [10] (fun v wr=>DgQ w we nb n m v wr) (fun v _=>m-(intOf v).toNat)
  case atStart=>exact HS0.out
  case round=>
   obtain⟨j,s',hj,rfl,hb,hbo,hx,ho⟩:=hrel
   have HB:=Lib.hid hb;have HBE:=Lib.hid hbo;have HXb:=Lib.hid hx;have HOk:=Lib.hid ho;have HWS:Hid (we.heap.size≤wr.heap.size):=Lib.hid hbo.size
   by_cases hjm:j<m
   case pos=>
    have t1:decide ((j:Int)<(m:Int))=true:=decide_eq_true (by omega);have t1':decide (j<m)=true:=decide_eq_true hjm
    obtain⟨L,hL,hox,hot⟩:=ho.qu
    obtain⟨qa,qc,hqv⟩:=hox.1.form
    have hll2:L.length=j:=by
     rw[←List.length_map (f:=Prod.fst),hL]
     show(List.replicate j qI).length=j
     rw[List.length_replicate]
    rw[hqv,hll2] at hox
    rw[hll2] at hqv
    have k30:wr.cell? ⟨nb,30,none⟩=some (.slice qa j qc):=by rw[←hqv];exact hx.cell 30
    have HLQ:=Lib.hid hL;have HLL:=Lib.hid hll2;have HOXQ:=Lib.hid hox;have HOT:=Lib.hid hot;have HQV:=Lib.hid hqv;have HJ:=Lib.hid hjm;clear hx ho hb hbo hL hox hot hqv hll2 HS0
    go_upto_region 12 with fail
    clear t1 t1';go_wp2_with (at_builtin;refine wpList_append_ow (f:=itc) (sz:=5) rfl _ _ 30 rfl we.heap.size 45 (.agg #[.int .i64 0,.int .i64 0,.int .i64 0,.int .i64 0,.slice none 0 0]) 56 Try.underlying30 infoX rfl (by decide) _ L rfl (HOXQ.out.1.below ((Below.refl _ _).alloc (Nat.le_refl _) _)) itc_ok _ [nilI qI] rfl (Rw.one2 (f:=itc) (sz:=5) _ 45 (nilI qI) #[.int .i64 1,.int .i64 9,.int .i64 9,.int .i64 1,.slice none 0 0] rfl 1 _ rfl) ?c2 ?c3 ?c4 ?_)
    case c2=>have h1:=HLL.out;have h2:=HM.out;simp only[maxLen];simp;omega
    case c3=>have h1:=HLL.out;have h2:=HM.out;simp;omega
    case c4=>have h1:=HWS.out;simp;omega
    intro v8 w8 ho8 hg8 hv8
    obtain⟨va,vc,rfl⟩:=ho8.form
    obtain⟨n1,hn1⟩:∃n1,n1=(L++[nilI qI]).length:=⟨_,rfl⟩
    rw[←hn1] at ho8 hv8 ⊢
    have hgz:wr.grownBy w8 (Value.slice qa j qc).ownBlock:=grown_trans (grown_below ((Below.refl _ _).alloc (Nat.le_refl _) _)) hg8;have hrow:∀q,(Value.slice qa j qc).ownBlock=some q→we.heap.size≤q∧q<wr.heap.size:=fun q hq=>⟨(HOXQ.out.blk hq).1,(HOXQ.out.blk hq).2.1⟩
    have hrt:=(HOXQ.out).1.typ
    have hxb:Bx w8 nb s' (dgW n j):=HXb.out.grown hgz (fun e=>by
     obtain⟨_,_,cur,h1⟩:=hrt nb e
     have h2:wr.heap[nb]? =some (.cells (bcells s' (dgW n j)) 34 (0,0)):=HXb.out;rw[h1] at h2
     simp at h2)
    have hb8:Below w.heap.size w w8:=HB.out.grown hgz HB.out.size (fun q hq=>by have h1:=(hrow _ hq).1;have h2:=HNB.out.1;omega);have hbo8:Below we.heap.size we w8:=HBE.out.grown hgz HBE.out.size (fun q hq=>(hrow _ hq).1)
    have hq8:ItO we.heap.size w8.heap.size w8 (.slice va n1 vc) ((dgW n j).qu++[qI]):=ItO.grew (m:=[nilI qI]) HLQ.out HOXQ.out HOT.out ho8 hgz (fun x hx=>by
     have e:=List.mem_singleton.1 hx;subst e
     exact⟨.inl rfl,rfl⟩) hgz.size
    have ho2:=HOk.out.newQu (Nat.le_refl _) ⟨va,n1,vc⟩ _ (by rw[HQV.out];exact hgz) hq8 (by
     rw[HQV.out];rcases hv8 with h1|h1
     ·exact .inl h1
     ·exact .inr ⟨_,h1,by simp⟩)
    have heq:({dgW n j with qu:=(dgW n j).qu++[qI]}:Bd)=dgW n (j+1):=(dgW_next n j).symm;rw[heq] at ho2
    have HEQ:=Lib.hid heq;replace HOk:=Lib.hid ho2;replace HB:=Lib.hid hb8;replace HBE:=Lib.hid hbo8;replace HXb:=Lib.hid hxb;have HCz:Hid (we.heap.size≤w8.heap.size):=Lib.hid hbo8.size;have d30:w8.cell? ⟨nb,30,none⟩=some (s'.qu.v):=hxb.cell 30;have f30:w8.frozen? ⟨nb,30,none⟩=false:=hxb.free 30;clear ho8 hg8 hv8 hrow hrt hxb hb8 hbo8 hq8 ho2 HOT hn1 HOXQ hgz k30 heq
    go_upto_region 11 with fail
    obtain⟨w9,hw⟩:∃X,X=w8.setCell ⟨nb,30,none⟩ (.slice va n1 vc):=⟨_,rfl⟩
    rw[←hw];have hon:Onl [nb] w8 w9:=by rw[hw];exact Onl.setCell (Onl.refl _ _) (.inl (by simp)) _
    have hx:Bx w9 nb ({s' with qu:=⟨va,n1,vc⟩}) (dgW n (j+1)):=by rw[←HEQ.out,hw];exact HXb.out.put 30 _ rfl
    clear hw d30 f30;have hlo:w.heap.size≤nb:=by(have o0:=HNB.out;have o1:=HCz.out;have x0:=HXb.out.lt;omega)
    have hls:w.heap.size≤w8.heap.size:=HB.out.size;replace HB:=Lib.hid (belowOnl HB.out hon (by simp only[List.mem_singleton,forall_eq];exact hlo) hls);replace HBE:=Lib.hid (belowOnl HBE.out hon (by simp only[List.mem_singleton,forall_eq];(have o0:=HNB.out;have o1:=HCz.out;have x0:=HXb.out.lt;omega)) HBE.out.size);replace HOk:=Lib.hid (HOk.out.onlB hon HXb.out);have HCq1:Hid (w8.heap.size≤w9.heap.size):=Lib.hid (hon.size);clear hlo hls;replace HXb:=Lib.hid hx;clear hx hon;have HON:Hid (BdO we.heap.size w9.heap.size w9 ({s' with qu:=⟨va,n1,vc⟩}) (dgW n (j+1))):=Lib.hid (HOk.out.mono (Nat.le_refl _) (by(have o0:=HNB.out;have o1:=HCz.out;have o2:=HCq1.out;have x0:=HXb.out.lt;omega)));have hjm:=HJ.out;go_wp2_with fail
    go_roundw
    case rel=>exact⟨j+1,_,by omega,by go_num,HB.out,HBE.out,HXb.out,HON.out⟩
    case measure=>simp[intOf];omega
   case neg=>
   obtain rfl:m=j:=by omega
   have t1:decide ((m:Int)<(m:Int))=false:=decide_eq_false (by omega);have t1':decide (m<m)=false:=decide_eq_false (by omega);clear hx ho hb hbo HS0 hjm hj
   obtain⟨wq,rfl⟩:∃W,W=wr:=⟨_,rfl⟩
   have HQR:Hid (BdR wq s' (dgW n m)):=Lib.hid HOk.out.rd;clear HBE HOk
   go_upto_region 13 with fail
   clear t1 t1'
   go_cut [11,12,13] (fun s2 s3 s4 wx=>∃nc sc a,s2= .pointer (some ⟨nc,0,none⟩)∧s3= .int .i64 n∧s4= .int .i64 0∧Below wq.heap.size wq wx∧Bx wx nc sc (ckB (csP a) (dgW n m) t)∧BdR wx sc (ckB (csP a) (dgW n m) t))
   case first=>
    refine rg3_13 (w0:=wq) (B:=wq.heap.size) (n:=wq.heap.size) (L:=[]) (by kernel_rfl) rfl (by kernel_rfl) (.t ⟨by go_grown,by go_size,(by simp[go_sem]<;>omega)⟩) (fun w61 K_w61 E_w61 F_w61=> ?_);have _ne:Nonempty (KX (wq.heap.size) wq (wq.heap.size) [] (fun _=>True)):=⟨⟨_,K_w61,E_w61⟩⟩;have qb0:∀W',(∃s':KX (wq.heap.size) wq (wq.heap.size) [] (fun _=>True),W' =s'.val)→Bx W' nb s' (dgW n m):=by rintro _ ⟨s2,rfl⟩;exact HXb.out.below s2.kept.below
    repeat (first|(go_big_quiet_want;(apply quiet_load_bx _ rfl rfl qb0);(focus(simp[go_sem];rfl));go_big_quiet_on)|go_big_quiet_step (fail))
    refine wpQuiet_nil ?_
    repeat (first|(go_big_quiet_want;(apply quiet_load_bx _ rfl rfl qb0);(focus(simp[go_sem];rfl));go_big_quiet_on)|go_big_quiet_step (fail))
    refine wpQuiet_nil ?_;have KH_w61:=Lib.hid K_w61;have hw_w61:=K_w61.below;have hz_w61:=K_w61.size;clear K_w61;clear E_w61 F_w61
    refine⟨fun K hK0=> ?_,fun K hK0=> ?_,trivial⟩
    ·skip
     have hK:=Lib.hid hK0;clear hK0;go_wp2_with fail
     with_reducible refine(lpool _).mono ?_
     rintro e v0 ⟨⟨vp,a,rfl,hp⟩,hb⟩;have HW:Hid (Below wq.heap.size wq v0):=Lib.hid (below_via KH_w61.out.below hb);have HP:=Lib.hid hp;clear hp hb;go_wp2_with fail
     first|refine⟨rfl,?u,hK.out _ _ ?_⟩|refine⟨?u,hK.out _ _ ?_⟩
     case u=>exact⟨⟨_,(⟨HW.out,HW.out.size,by simp⟩:Kept wq.heap.size wq wq.heap.size [] v0),trivial⟩,rfl⟩
     clear hK K
     refine⟨fun K hK0=> ?_,fun K hK0=> ?_,trivial⟩
     ·skip
      have hK:=Lib.hid hK0;clear hK0;go_wp2_with fail
      with_reducible refine(gck vp a s' n m t _ HN.out HM.out HT.out HP.out (HQR.out.below HW.out)).mono ?_
      rintro e v06 ⟨sc,rfl,ho,hb⟩;replace HW:Hid (Below wq.heap.size wq v06):=Lib.hid (below_via HW.out hb);replace HP:=Lib.hid (HP.out.below hb);have HC:=Lib.hid ho;clear ho hb;go_wp2_with fail
      first|refine⟨rfl,hK.out _ _ ?_⟩|refine hK.out _ _ ?_
      clear hK K
      repeat (first|(go_big_quiet_want;(apply quiet_load_bx _ rfl rfl qb0);(focus(simp[go_sem];rfl));go_big_quiet_on)|go_big_quiet_step (fail))
      refine wpQuiet_nil ?_
      refine⟨fun K hK0=> ?_,trivial⟩
      have hK:=Lib.hid hK0;clear hK0;go_wp2_with fail
      obtain⟨v06a,hw7⟩:∃W,W=v06.alloc (.cells (bcells nilS zeroB) 34):=⟨_,rfl⟩
      rw[zal,←hw7];have hb:Below v06.heap.size v06 v06a:=by rw[hw7];exact(Below.refl _ _).alloc (Nat.le_refl _) _
      obtain⟨nc,hnc⟩:∃n,n=v06.heap.size:=⟨_,rfl⟩
      rw[←hnc];have hnl:wq.heap.size≤nc:=by have h1:=HW.out.size;omega
      have HNL:=Lib.hid hnl;replace HW:Hid (Below wq.heap.size wq v06a):=Lib.hid (below_via HW.out hb);replace HP:=Lib.hid (HP.out.below hb);replace HC:=Lib.hid (HC.out.below hb);have HN2:Hid (Bx v06a nc nilS zeroB):=Lib.hid (by rw[hw7,hnc];exact Ro.new _ _ _);clear hw7 hb hnc hnl
      first|refine⟨rfl,?u,hK.out _ _ ?_⟩|refine⟨?u,hK.out _ _ ?_⟩
      case u=>exact⟨⟨_,(⟨HW.out,HW.out.size,by simp⟩:Kept wq.heap.size wq wq.heap.size [] v06a),trivial⟩,rfl⟩
      clear hK K
      refine⟨fun K hK0=> ?_,trivial⟩
      have hK:=Lib.hid hK0;clear hK0;go_wp2_with (refine wpList_store_bh (s:=sc) (B:=ckB (csP a) (dgW n m) t) rfl _ _ rfl rfl rfl HN2.out rfl ?_)
      intro v9 hw9;have hon:Onl [nc] v06a v9:=by rw[hw9.out];exact Onl.setRow (Onl.refl _ _) (.inl (by simp)) _
      have HX9:Hid (Bx v9 nc sc (ckB (csP a) (dgW n m) t)):=Lib.hid (by rw[hw9.out];exact Bx.row HN2.out _ _);have HC9:=Lib.hid (HC.out.onlB hon HN2.out).rd;have HW9:Hid (Below wq.heap.size wq v9):=Lib.hid (belowOnl HW.out hon (by simp only[List.mem_singleton,forall_eq];exact HNL.out) HW.out.size);clear hw9 hon
      first|refine⟨rfl,hK.out _ _ ?_⟩|refine hK.out _ _ ?_
      clear hK K
      repeat (first|(go_big_quiet_want;(apply quiet_load_bx _ rfl rfl qb0);(focus(simp[go_sem];rfl));go_big_quiet_on)|go_big_quiet_step (fail))
      refine wpQuiet_nil ?_;clear _ne qb0;go_wp2_with fail
      go_meet
      case rel=>exact⟨_,_,_,rfl,rfl,rfl,HW9.out,HX9.out,HC9.out⟩
     ·skip
      have hK:=Lib.hid hK0;clear hK0;go_wp2_with fail
      obtain⟨v0a,hw7⟩:∃W,W=v0.alloc (.cells (bcells nilS zeroB) 34):=⟨_,rfl⟩
      rw[zal,←hw7];have hb:Below v0.heap.size v0 v0a:=by rw[hw7];exact(Below.refl _ _).alloc (Nat.le_refl _) _
      obtain⟨nc,hnc⟩:∃n,n=v0.heap.size:=⟨_,rfl⟩
      rw[←hnc];have hnl:wq.heap.size≤nc:=by have h1:=HW.out.size;omega
      have HNL:=Lib.hid hnl;replace HW:Hid (Below wq.heap.size wq v0a):=Lib.hid (below_via HW.out hb);replace HP:=Lib.hid (HP.out.below hb);have HN2:Hid (Bx v0a nc nilS zeroB):=Lib.hid (by rw[hw7,hnc];exact Ro.new _ _ _);clear hw7 hb hnc hnl
      first|refine⟨rfl,?u,hK.out _ _ ?_⟩|refine⟨?u,hK.out _ _ ?_⟩
      case u=>exact⟨⟨_,(⟨HW.out,HW.out.size,by simp⟩:Kept wq.heap.size wq wq.heap.size [] v0a),trivial⟩,rfl⟩
      clear hK K
      refine⟨fun K hK0=> ?_,trivial⟩
      have hK:=Lib.hid hK0;clear hK0;go_wp2_with fail
      with_reducible refine(gck vp a s' n m t _ HN.out HM.out HT.out HP.out (HQR.out.below HW.out)).mono ?_
      rintro e v0a6 ⟨sc,rfl,ho,hb⟩;replace HW:Hid (Below wq.heap.size wq v0a6):=Lib.hid (below_via HW.out hb);replace HP:=Lib.hid (HP.out.below hb);replace HN2:=Lib.hid (HN2.out.below hb);have HC:=Lib.hid ho;clear ho hb;go_wp2_with fail
      first|refine⟨rfl,hK.out _ _ ?_⟩|refine hK.out _ _ ?_
      clear hK K
      repeat (first|(go_big_quiet_want;(apply quiet_load_bx _ rfl rfl qb0);(focus(simp[go_sem];rfl));go_big_quiet_on)|go_big_quiet_step (fail))
      refine wpQuiet_nil ?_
      refine⟨fun K hK0=> ?_,trivial⟩
      have hK:=Lib.hid hK0;clear hK0;go_wp2_with (refine wpList_store_bh (s:=sc) (B:=ckB (csP a) (dgW n m) t) rfl _ _ rfl rfl rfl HN2.out rfl ?_)
      intro v9 hw9;have hon:Onl [nc] v0a6 v9:=by rw[hw9.out];exact Onl.setRow (Onl.refl _ _) (.inl (by simp)) _
      have HX9:Hid (Bx v9 nc sc (ckB (csP a) (dgW n m) t)):=Lib.hid (by rw[hw9.out];exact Bx.row HN2.out _ _);have HC9:=Lib.hid (HC.out.onlB hon HN2.out).rd;have HW9:Hid (Below wq.heap.size wq v9):=Lib.hid (belowOnl HW.out hon (by simp only[List.mem_singleton,forall_eq];exact HNL.out) HW.out.size);clear hw9 hon
      first|refine⟨rfl,hK.out _ _ ?_⟩|refine hK.out _ _ ?_
      clear hK K
      repeat (first|(go_big_quiet_want;(apply quiet_load_bx _ rfl rfl qb0);(focus(simp[go_sem];rfl));go_big_quiet_on)|go_big_quiet_step (fail))
      refine wpQuiet_nil ?_;clear _ne qb0;go_wp2_with fail
      go_meet
      case rel=>exact⟨_,_,_,rfl,rfl,rfl,HW9.out,HX9.out,HC9.out⟩
    ·skip
     have hK:=Lib.hid hK0;clear hK0;go_wp2_with fail
     obtain⟨va,hw7⟩:∃W,W=w61.alloc (.cells (bcells nilS zeroB) 34):=⟨_,rfl⟩
     rw[zal,←hw7];have hb:Below w61.heap.size w61 va:=by rw[hw7];exact(Below.refl _ _).alloc (Nat.le_refl _) _
     obtain⟨nc,hnc⟩:∃n,n=w61.heap.size:=⟨_,rfl⟩
     rw[←hnc];have hnl:wq.heap.size≤nc:=by have h1:=KH_w61.out.below.size;omega
     have HNL:=Lib.hid hnl;have HW:Hid (Below wq.heap.size wq va):=Lib.hid (below_via KH_w61.out.below hb);have HN2:Hid (Bx va nc nilS zeroB):=Lib.hid (by rw[hw7,hnc];exact Ro.new _ _ _);clear hw7 hb hnc hnl
     first|refine⟨rfl,?u,hK.out _ _ ?_⟩|refine⟨?u,hK.out _ _ ?_⟩
     case u=>exact⟨⟨_,(⟨HW.out,HW.out.size,by simp⟩:Kept wq.heap.size wq wq.heap.size [] va),trivial⟩,rfl⟩
     clear hK K
     refine⟨fun K hK0=> ?_,trivial⟩
     have hK:=Lib.hid hK0;clear hK0;go_wp2_with fail
     with_reducible refine(lpool _).mono ?_
     rintro e va0 ⟨⟨vp,a,rfl,hp⟩,hb⟩;replace HW:Hid (Below wq.heap.size wq va0):=Lib.hid (below_via HW.out hb);replace HN2:=Lib.hid (HN2.out.below hb);have HP:=Lib.hid hp;clear hp hb;go_wp2_with fail
     first|refine⟨rfl,?u,hK.out _ _ ?_⟩|refine⟨?u,hK.out _ _ ?_⟩
     case u=>exact⟨⟨_,(⟨HW.out,HW.out.size,by simp⟩:Kept wq.heap.size wq wq.heap.size [] va0),trivial⟩,rfl⟩
     clear hK K
     refine⟨fun K hK0=> ?_,trivial⟩
     have hK:=Lib.hid hK0;clear hK0;go_wp2_with fail
     with_reducible refine(gck vp a s' n m t _ HN.out HM.out HT.out HP.out (HQR.out.below HW.out)).mono ?_
     rintro e va06 ⟨sc,rfl,ho,hb⟩;replace HW:Hid (Below wq.heap.size wq va06):=Lib.hid (below_via HW.out hb);replace HP:=Lib.hid (HP.out.below hb);replace HN2:=Lib.hid (HN2.out.below hb);have HC:=Lib.hid ho;clear ho hb;go_wp2_with fail
     first|refine⟨rfl,hK.out _ _ ?_⟩|refine hK.out _ _ ?_
     clear hK K
     repeat (first|(go_big_quiet_want;(apply quiet_load_bx _ rfl rfl qb0);(focus(simp[go_sem];rfl));go_big_quiet_on)|go_big_quiet_step (fail))
     refine wpQuiet_nil ?_
     refine⟨fun K hK0=> ?_,trivial⟩
     have hK:=Lib.hid hK0;clear hK0;go_wp2_with (refine wpList_store_bh (s:=sc) (B:=ckB (csP a) (dgW n m) t) rfl _ _ rfl rfl rfl HN2.out rfl ?_)
     intro v9 hw9;have hon:Onl [nc] va06 v9:=by rw[hw9.out];exact Onl.setRow (Onl.refl _ _) (.inl (by simp)) _
     have HX9:Hid (Bx v9 nc sc (ckB (csP a) (dgW n m) t)):=Lib.hid (by rw[hw9.out];exact Bx.row HN2.out _ _);have HC9:=Lib.hid (HC.out.onlB hon HN2.out).rd;have HW9:Hid (Below wq.heap.size wq v9):=Lib.hid (belowOnl HW.out hon (by simp only[List.mem_singleton,forall_eq];exact HNL.out) HW.out.size);clear hw9 hon
     first|refine⟨rfl,hK.out _ _ ?_⟩|refine hK.out _ _ ?_
     clear hK K
     repeat (first|(go_big_quiet_want;(apply quiet_load_bx _ rfl rfl qb0);(focus(simp[go_sem];rfl));go_big_quiet_on)|go_big_quiet_step (fail))
     refine wpQuiet_nil ?_;clear _ne qb0;go_wp2_with fail
     go_meet
     case rel=>exact⟨_,_,_,rfl,rfl,rfl,HW9.out,HX9.out,HC9.out⟩
   case rest=>
    obtain⟨wx,rfl⟩:∃W,W=wc:=⟨_,rfl⟩
    obtain⟨nc,sc,a,rfl,rfl,rfl,hb,hx,hr⟩:=hcut
    replace HB:=Lib.hid (below_via HB.out hb);have HXc:=Lib.hid hx
    obtain⟨X,hX⟩:∃X,X=ckB (csP a) (dgW n m) t:=⟨_,rfl⟩
    obtain⟨_,r2,r3,r4,r5⟩:=dg_res a HN.out HM.out HT.out
    rw[←hX] at HXc hr r2 r3 r4 r5
    have HR:=Lib.hid hr
    obtain⟨wt,hwt⟩:∃x,x=max m (min t (m+n)):=⟨_,rfl⟩
    rw[←hwt] at r4 r5
    have HWT:=Lib.hid hwt;have HIT:=Lib.hid r5;have hw65:wt≤65:=by omega
    obtain⟨qa,qc,hq⟩:∃a c,sc.qu.v= .slice a wt c:=by
     obtain⟨l,h1,h2,_⟩:=HR.out.qu
     obtain⟨_,a,c,h3,_⟩:=h2.form
     exact⟨a,c,by rw[h3,←r4,←h1,List.length_map]⟩
    obtain⟨_,ga,gc,hgv,_⟩:=(HR.out.zone 0 3).form
    obtain⟨_,fa,fc,hfv,_⟩:=(HR.out.zone 0 2).form
    have hgv2:(sc.zl 0 3).v= .slice ga n gc:=by rw[hgv];show Value.slice ga X.s0.grv.length gc=_;rw[r2]
    have hfv2:(sc.zl 0 2).v= .slice fa 0 fc:=by rw[hfv];show Value.slice fa X.s0.fld.length fc=_;rw[r3]
    have c30:wx.cell? ⟨nc,30,none⟩=some (.slice qa wt qc):=by rw[←hq];exact HXc.out.cell 30
    have c9:wx.cell? ⟨nc,9,none⟩=some (.slice ga n gc):=(HXc.out.zone (p:=0) (z:=3) (by omega) (by omega)).trans (congrArg some hgv2);have c8:wx.cell? ⟨nc,8,none⟩=some (.slice fa 0 fc):=(HXc.out.zone (p:=0) (z:=2) (by omega) (by omega)).trans (congrArg some hfv2);have HQV:=Lib.hid hq;have HC30:=Lib.hid c30;clear hb hx hr hX r2 r3 r4 r5 hwt hgv hfv hgv2 hfv2 hq HQR HXb
    go_upto_region 14 with fail
    go_cut [14] (fun s0 wy=>s0= .int .i64 wt∧wy=wx)
    case first=>
     by_cases a1:(m:Int)+(n:Int)<(t:Int)
     ·have a1':(m:Int)+(n:Int)<(t:Int):=a1
      have a1n:m+n<t:=by omega
      by_cases a2:(m:Int)<(m:Int)+(n:Int)
      ·have a2':(m:Int)<(m:Int)+(n:Int):=a2
       have a2n:m<m+n:=by omega
       go_wp2_with fail
       go_meet
       case rel=>exact⟨val_int (by rw[HWT.out];omega),rfl⟩
      ·have a2':¬(m:Int)<(m:Int)+(n:Int):=a2
       have a2n:¬m<m+n:=by omega
       go_wp2_with fail
       go_meet
       case rel=>exact⟨val_int (by rw[HWT.out];omega),rfl⟩
     ·have a1':¬(m:Int)+(n:Int)<(t:Int):=a1
      have a1n:¬m+n<t:=by omega
      by_cases a2:(m:Int)<(t:Int)
      ·have a2':(m:Int)<(t:Int):=a2
       have a2n:m<t:=by omega
       go_wp2_with fail
       go_meet
       case rel=>exact⟨val_int (by rw[HWT.out];omega),rfl⟩
      ·have a2':¬(m:Int)<(t:Int):=a2
       have a2n:¬m<t:=by omega
       go_wp2_with fail
       go_meet
       case rel=>exact⟨val_int (by rw[HWT.out];omega),rfl⟩
    case rest=>
     obtain⟨wy,rfl⟩:∃W,W=wc:=⟨_,rfl⟩
     obtain⟨rfl,rfl⟩:=hcut
     have u1:((n:Int) !=(n:Int))=false:=by simp
     have u1':(n !=n)=false:=by simp
     have u2:((wt:Int) !=(wt:Int))=false:=by simp
     have u2':(wt !=wt)=false:=by simp
     go_upto_region 17 with fail
     clear u1 u1' u2 u2' c9 c8;go_wp2_with fail
     have hmw:m≤wt:=by have:=HWT.out;omega
     go_loopw [15] (fun v wr=>DgI wy m wt v wr) (fun v _=>wt-(intOf v).toNat)
     case atStart=>exact⟨m,Nat.le_refl _,hmw,rfl,Below.refl _ _⟩
     case round=>
      obtain⟨i,hmi,hiw,rfl,hb⟩:=hrel
      have HBI:=Lib.hid hb;clear hb c30;have c30:wr.cell? ⟨nc,30,none⟩=some (.slice qa wt qc):=(HBI.out.cell (p:=⟨nc,30,none⟩) HXc.out.lt).trans HC30.out
      by_cases hin:i<wt
      ·have t1:decide ((i:Int)<(wt:Int))=true:=decide_eq_true (by omega)
       have t1':decide (i<wt)=true:=decide_eq_true hin;have hit:=HIT.out i hmi hin
       obtain⟨l,h1,h2,h3⟩:=HR.out.qu
       have hl2:(l.map Prod.fst)[i]? =some ⟨0,((i-m+1:Nat):Int),0,0,[]⟩:=by rw[h1];exact hit
       rw[List.getElem?_map] at hl2
       obtain⟨x,hx,hx1⟩:=Option.map_eq_some_iff.1 hl2
       obtain⟨b,off,rfl,hlb,hc⟩:∃b off,qa=some ⟨b,off,none⟩∧b<wy.heap.size∧∀j y,l[j]? =some y→∀k u,(itc y)[k]? =some u→wy.cell? ⟨b,off+(j*5+k),none⟩=some u:=by
        rw[HQV.out] at h2
        obtain⟨_,a9,c9,hv9,hf9⟩:=h2.form
        have hlen:l.length=wt:=by
         simp only[Value.slice.injEq] at hv9
         exact hv9.2.1.symm
        simp only[Value.slice.injEq] at hv9
        obtain⟨rfl,_,rfl⟩:=hv9
        obtain⟨b,off,e1,e2,e3⟩:=hf9 (by omega)
        exact⟨b,off,e1,e2,e3⟩
       have htg:=h3 x (List.mem_of_getElem? hx);rw[hx1] at htg
       obtain⟨_,ta,tc',htv,_⟩:=htg.form
       have HTG:Hid (Rw tc 2 wr (.slice ta 0 tc') ([]:List Tg)):=Lib.hid (by
        have h4:=htg.below HBI.out;rw[htv] at h4
        exact h4)
       obtain⟨idn,hidn⟩:∃q:Int,1+(i:Int)-(m:Int)=q:=⟨_,rfl⟩
       have hid2:((i-m+1:Nat):Int)=idn:=by omega
       have HRG:Hid (wr.rangeAt b (off+i*5) [.int .i64 0,.int .i64 idn,.int .i64 0,.int .i64 0,.slice ta 0 tc']):=Lib.hid (fun k u hu=>by
        rw[Nat.add_assoc]
        refine(HBI.out.cell (p:=⟨b,off+(i*5+k),none⟩) hlb).trans (hc i x hx k u ?_)
        have e:itc x=[.int .i64 0,.int .i64 idn,.int .i64 0,.int .i64 0,.slice ta 0 tc']:=by
         unfold itc;rw[hx1,htv,←hid2]
         rfl
        rw[e];exact hu)
       have i1:(0:Int)≤(i:Int):=by omega
       have i2:(i:Int)<(wt:Int):=by omega
       clear hit h1 h2 h3 hl2 hx hx1 hc hlb htg htv hid2
       go_upto_region 20 with fail
       clear t1 t1';go_wp2_with (refine wpList_load_mid rfl 45 _ rfl b (off+i*5) rfl [.int .i64 0,.int .i64 idn,.int .i64 0,.int .i64 0,.slice ta 0 tc'] _ HRG.out Try.underlying45 rfl rfl ?_)
       with_reducible refine(gsi ta tc' idn _ HTG.out).mono ?_
       rintro e w2 ⟨rfl,hb⟩;replace HBI:=Lib.hid (below_via HBI.out hb);clear hb HRG HTG i1 i2 hidn c30;go_wp2_with fail
       go_roundw
       case rel=>exact⟨i+1,by omega,by omega,by go_num,HBI.out⟩
       case measure=>simp[intOf];omega
      ·obtain rfl:wt=i:=by omega
       have t1:decide ((wt:Int)<(wt:Int))=false:=decide_eq_false (by omega);have t1':decide (wt<wt)=false:=decide_eq_false (by omega);clear c30
       go_upto_region 22 with fail
       clear t1 t1';go_wp2_with fail
       with_reducible refine(known _).mono ?_
       rintro e w2 ⟨rfl,hb⟩;have HF:=Lib.hid (below_via (below_via HB.out HBI.out) hb);clear hb;go_wp2_with fail
       go_returns
       exact⟨rfl,HF.out⟩
theorem wtg(a b c:Int)(w:World)(ha:0≤a)(hb:0≤b)(hc:0≤c):Calls Try.prog 3 #[.int .u8 a,.int .u8 b,.int .u8 c] w fun e w' =>e= .returned (.bool true)∧Below w.heap.size w w':=by
 by_cases h1:a>25
 ·exact wtg_bad0 a b c w h1
 by_cases h2:b>20
 ·exact wtg_bad1 a b c w h1 h2
 by_cases h3:c>40
 ·exact wtg_bad2 a b c w h1 h2 h3
 obtain⟨n,rfl⟩:∃n:Nat,a=n:=⟨a.toNat,by omega⟩
 obtain⟨m,rfl⟩:∃n:Nat,b=n:=⟨b.toNat,by omega⟩
 obtain⟨t,rfl⟩:∃n:Nat,c=n:=⟨c.toNat,by omega⟩
 exact wtg_ok n m t w (by omega) (by omega) (by omega)
end Go.Proofs.Ytpbepnpnpopmfaa
