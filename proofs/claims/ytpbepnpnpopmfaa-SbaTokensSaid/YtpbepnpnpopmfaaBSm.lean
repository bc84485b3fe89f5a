/- Lists and items that are equal, by the reference: of equal ones it says so. -/
import Derived.Test.YtpbepnpnpopmfaaBCr
import Derived.Deep.DeepCutAuto
import Derived.LoopTactic
import Derived.Deep.MidRow
namespace Go.Proofs.Ytpbepnpnpopmfaa
open Go.RowKit Plain
set_option linter.unusedVariables false
set_option linter.unusedSimpArgs false

theorem rg54_6{P:Program}{B n:Nat}{w0:World}{L:List (Nat×Nat×Value)}{E F:World→Prop}{id:Nat}{Q:Exit→Act→World→Prop}{a:Act}{w:World}{A:Array Oper}{o0 o1 o2 o3 o4 o5 o6 o7 o8:Oper}(hm:P.follows .mixedOrders=true)(hA:A=[o0,o1,o2,o3,o4,o5,o6,o7,o8].toArray)(hB:regOk A [3,7] [0,1,2,4,5,6,8] (.fs [0,1,2,4,5,6] (.rs [3,7] (.fs [8] .done)))=true)(c:RC B w0 n L E F w)
  (h:∀wk,Kept B w0 n L wk→E wk→F wk→wpQuiet P A (fun _=>True) (fun a0=>wpQuiet P A (fun w' =>∃s:KX B w0 n L E,w' =s.val) (fun a1=>wpQuiet P A (fun _=>True) (fun a2=>Q .normal a2 wk) [o8] a1) [o3,o7] a0) [o0,o1,o2,o4,o5,o6] a):(Code.region id A true).wp P Q a w:=by
 subst hA;exact wp_reg _ _ _ hm hB c (fun wk k e f=>have g:=h wk k e f;Scr.of_fs _ _ rfl g fun _ g=>Scr.of_rs _ _ rfl g fun _ g=>Scr.of_fs _ _ rfl g fun _ g=>g)
theorem rg10_6{P:Program}{B n:Nat}{w0:World}{L:List (Nat×Nat×Value)}{E F:World→Prop}{id:Nat}{Q:Exit→Act→World→Prop}{a:Act}{w:World}{A:Array Oper}{o0 o1 o2 o3 o4 o5 o6 o7 o8 o9 o10:Oper}(hm:P.follows .mixedOrders=true)(hA:A=[o0,o1,o2,o3,o4,o5,o6,o7,o8,o9,o10].toArray)(hB:regOk A [1,4,6,9] [0,2,3,5,7,8,10] (.fs [0,2,5,7] (.rs [1] (.fs [3] (.rs [4,6] (.fs [8] (.rs [9] (.fs [10] .done)))))))=true)(c:RC B w0 n L E F w)
  (h:∀wk,Kept B w0 n L wk→E wk→F wk→wpQuiet P A (fun _=>True) (fun a0=>wpQuiet P A (fun w' =>∃s:KX B w0 n L E,w' =s.val) (fun a1=>wpQuiet P A (fun _=>True) (fun a2=>wpQuiet P A (fun w' =>∃s:KX B w0 n L E,w' =s.val) (fun a3=>wpQuiet P A (fun _=>True) (fun a4=>wpQuiet P A (fun w' =>∃s:KX B w0 n L E,w' =s.val) (fun a5=>wpQuiet P A (fun _=>True) (fun a6=>Q .normal a6 wk) [o10] a5) [o9] a4) [o8] a3) [o4,o6] a2) [o3] a1) [o1] a0) [o0,o2,o5,o7] a):(Code.region id A true).wp P Q a w:=by
 subst hA;exact wp_reg _ _ _ hm hB c (fun wk k e f=>have g:=h wk k e f;Scr.of_fs _ _ rfl g fun _ g=>Scr.of_rs _ _ rfl g fun _ g=>Scr.of_fs _ _ rfl g fun _ g=>Scr.of_rs _ _ rfl g fun _ g=>Scr.of_fs _ _ rfl g fun _ g=>Scr.of_rs _ _ rfl g fun _ g=>Scr.of_fs _ _ rfl g fun _ g=>g)
theorem rg53_6{P:Program}{B n:Nat}{w0:World}{L:List (Nat×Nat×Value)}{E F:World→Prop}{id:Nat}{Q:Exit→Act→World→Prop}{a:Act}{w:World}{A:Array Oper}{o0 o1 o2 o3 o4 o5 o6 o7 o8 o9:Oper}(hm:P.follows .mixedOrders=true)(hA:A=[o0,o1,o2,o3,o4,o5,o6,o7,o8,o9].toArray)(hB:regOk A [3,7] [0,1,2,4,5,6,9] (.fs [0,1,2,4,5,6] (.rs [3,7] (.altc 8 (.fs [9] .done) .stop)))=true)(c:RC B w0 n L E F w)
  (h:∀wk,Kept B w0 n L wk→E wk→F wk→wpQuiet P A (fun _=>True) (fun a0=>wpQuiet P A (fun w' =>∃s:KX B w0 n L E,w' =s.val) (fun a1=>((∀K2:Act→World→Prop,(∀a2 w2,wpQuiet P A (fun _=>True) (fun a3=>Q .normal a3 w2) [o9] a2→K2 a2 w2)→wpList P A (fun e a2 w2=>e= .normal∧K2 a2 w2) [o8] a1 wk)∧True)) [o3,o7] a0) [o0,o1,o2,o4,o5,o6] a):(Code.region id A true).wp P Q a w:=by
 subst hA;exact wp_reg _ _ _ hm hB c (fun wk k e f=>have g:=h wk k e f;Scr.of_fs _ _ rfl g fun _ g=>Scr.of_rs _ _ rfl g fun _ g=>(Scr.of_altc rfl (g.1 _ fun _ _ g=>g) (fun _ _ g=>Scr.of_fs _ _ rfl g fun _ g=>g) trivial))
def LsL(w:World)(n:Nat)(i:Value)(wr:World):Prop:=∃k:Nat,k≤n∧i= .int .i64 k∧Below w.heap.size w wr
set_option maxRecDepth 100000 in
set_option maxHeartbeats 4000000 in
theorem rints(v1 v2:Value)(l:List Int)(w:World)(h1:Rw ic 1 w v1 l)(h2:Rw ic 1 w v2 l):Calls Try.prog 54 #[v1,v2] w fun e w' =>e= .returned (.bool true)∧Below w.heap.size w w':=by
 obtain⟨hm,a1,c1,rfl,hf1⟩:=h1.form
 obtain⟨_,a2,c2,rfl,hf2⟩:=h2.form
 have HF1:=Lib.hid hf1;have HF2:=Lib.hid hf2;clear h1 h2 hf1 hf2;have hne:(l.length !=l.length)=false:=by simp
 have hne2:((l.length:Int) !=(l.length:Int))=false:=by simp
 go_enter Try.func54,Try.ntmps54;go_wp2_with fail
 go_loopw [5] (fun i wr=>LsL w l.length i wr) (fun i _=>l.length-(intOf i).toNat)
 case atStart=>exact⟨0,by omega,rfl,Below.refl _ _⟩
 case round=>
  obtain⟨k,hk,rfl,hb⟩:=hrel
  have HB:=Lib.hid hb
  by_cases hkl:k<l.length
  ·obtain⟨b1,o1,rfl,hlt1,hc1⟩:=HF1.out (by omega)
   obtain⟨b2,o2,rfl,hlt2,hc2⟩:=HF2.out (by omega)
   obtain⟨x,hx⟩:∃x,l[k]? =some x:=⟨_,List.getElem?_eq_getElem hkl⟩
   have d1:wr.cell? ⟨b1,o1+k,none⟩=some (.int .i64 x):=(hb.cell (p:=⟨b1,o1+k,none⟩) hlt1).trans (by have:=hc1 k x hx 0 _ rfl;simpa using this);have d2:wr.cell? ⟨b2,o2+k,none⟩=some (.int .i64 x):=(hb.cell (p:=⟨b2,o2+k,none⟩) hlt2).trans (by have:=hc2 k x hx 0 _ rfl;simpa using this);have g1:b1<wr.heap.size:=Nat.lt_of_lt_of_le hlt1 hb.size;have g2:b2<wr.heap.size:=Nat.lt_of_lt_of_le hlt2 hb.size;have i1:(0:Int)≤(k:Int):=by omega
   have i2:(k:Int)<(l.length:Int):=by omega
   clear hc1 hc2 hx hb
   go_upto_region 6 with fail
   refine rg54_6 (w0:=wr) (B:=wr.heap.size) (n:=wr.heap.size) (L:=[]) (by kernel_rfl) rfl (by kernel_rfl) (.t ⟨by go_grown,by go_size,(by simp[go_sem]<;>omega)⟩) (fun w21 K_w21 E_w21 F_w21=> ?_);have _ne:Nonempty (KX (wr.heap.size) wr (wr.heap.size) [] (fun _=>True)):=⟨⟨_,K_w21,E_w21⟩⟩
   repeat (go_big_quiet_step (fail))
   refine wpQuiet_nil ?_;have ra:=rck _ne d1 g1;have rb:=rck _ne d2 g2
   repeat (go_big_quiet_step (fail))
   refine wpQuiet_nil ?_
   repeat (go_big_quiet_step (fail))
   refine wpQuiet_nil ?_;clear ra rb;clear _ne;have KH_w21:=Lib.hid K_w21;have hw_w21:=K_w21.below;have hz_w21:=K_w21.size;clear K_w21;clear E_w21 F_w21;go_wp2_with fail
   replace HB:=Lib.hid (below_via HB.out hw_w21)
   go_roundw
   case rel=>exact⟨k+1,by omega,by go_num,HB.out⟩
   case measure=>simp[intOf];omega
  ·clear hb
   go_wp2_with fail
   go_returns
   exact⟨rfl,HB.out⟩
def SiL(w:World)(n:Nat)(C1 C2:Array Value)(i:Value)(wr:World):Prop:=∃k:Nat,k≤n∧i= .int .i64 k∧Below w.heap.size w wr∧Ro wr w.heap.size C1 45∧Ro wr (w.heap.size+1) C2 45
set_option maxRecDepth 100000 in
set_option maxHeartbeats 4000000 in
theorem rsameitem(a1 a2:Option Addr)(c1 c2:Nat)(x:It)(w:World)(h1:Rw tc 2 w (.slice a1 x.tg.length c1) x.tg)(h2:Rw tc 2 w (.slice a2 x.tg.length c2) x.tg):Calls Try.prog 10 #[.agg #[.int .i64 x.pl,.int .i64 x.id,.int .i64 x.cd,.int .i64 x.tr,.slice a1 x.tg.length c1],.agg #[.int .i64 x.pl,.int .i64 x.id,.int .i64 x.cd,.int .i64 x.tr,.slice a2 x.tg.length c2]] w fun e w' =>e= .returned (.bool true)∧Below w.heap.size w w':=by
 obtain⟨hm,b1,c1',hv1,hf1⟩:=h1.form
 obtain⟨_,b2,c2',hv2,hf2⟩:=h2.form
 simp only[Value.slice.injEq] at hv1 hv2
 obtain⟨rfl,hx1,rfl⟩:=hv1
 obtain⟨rfl,hx2,rfl⟩:=hv2
 clear hx1 hx2;have HF1:=Lib.hid hf1;have HF2:=Lib.hid hf2;clear h1 h2 hf1 hf2;have hne:(x.tg.length !=x.tg.length)=false:=by simp
 have hne2:((x.tg.length:Int) !=(x.tg.length:Int))=false:=by simp
 have t0:(x.pl !=x.pl)=false:=by simp
 have t1:(x.id !=x.id)=false:=by simp
 have t2:(x.cd !=x.cd)=false:=by simp
 have t3:(x.tr !=x.tr)=false:=by simp
 go_enter Try.func10,Try.ntmps10
 go_upto_region 1 with fail
 obtain⟨wz,hwz⟩:∃W,W=(w.alloc (.cells #[.int .i64 x.pl,.int .i64 x.id,.int .i64 x.cd,.int .i64 x.tr,.slice a1 x.tg.length c1] 45)).alloc (.cells #[.int .i64 x.pl,.int .i64 x.id,.int .i64 x.cd,.int .i64 x.tr,.slice a2 x.tg.length c2] 45):=⟨_,rfl⟩
 rw[←hwz];have b1':Below w.heap.size w (w.alloc (.cells #[.int .i64 x.pl,.int .i64 x.id,.int .i64 x.cd,.int .i64 x.tr,.slice a1 x.tg.length c1] 45)):=(Below.refl _ _).alloc (Nat.le_refl _) _;have b2':Below (w.alloc (.cells #[.int .i64 x.pl,.int .i64 x.id,.int .i64 x.cd,.int .i64 x.tr,.slice a1 x.tg.length c1] 45)).heap.size (w.alloc (.cells #[.int .i64 x.pl,.int .i64 x.id,.int .i64 x.cd,.int .i64 x.tr,.slice a1 x.tg.length c1] 45)) wz:=by rw[hwz];exact(Below.refl _ _).alloc (Nat.le_refl _) _
 have HR1:Hid (Ro wz w.heap.size #[.int .i64 x.pl,.int .i64 x.id,.int .i64 x.cd,.int .i64 x.tr,.slice a1 x.tg.length c1] 45):=Lib.hid ((Ro.new _ _ _).below b2');have HR2:Hid (Ro wz (w.heap.size+1) #[.int .i64 x.pl,.int .i64 x.id,.int .i64 x.cd,.int .i64 x.tr,.slice a2 x.tg.length c2] 45):=Lib.hid (by rw[hwz,show w.heap.size+1=(w.alloc (.cells #[.int .i64 x.pl,.int .i64 x.id,.int .i64 x.cd,.int .i64 x.tr,.slice a1 x.tg.length c1] 45)).heap.size by simp];exact Ro.new _ _ _);have HB:Hid (Below w.heap.size w wz):=Lib.hid (below_via b1' b2');clear hwz b1' b2';have k0:wz.cell? ⟨w.heap.size,0,none⟩=some (.int .i64 x.pl):=HR1.out.cell 0;have l0:wz.cell? ⟨w.heap.size+1,0,none⟩=some (.int .i64 x.pl):=HR2.out.cell 0;have k1:wz.cell? ⟨w.heap.size,1,none⟩=some (.int .i64 x.id):=HR1.out.cell 1;have l1:wz.cell? ⟨w.heap.size+1,1,none⟩=some (.int .i64 x.id):=HR2.out.cell 1;have k2:wz.cell? ⟨w.heap.size,2,none⟩=some (.int .i64 x.cd):=HR1.out.cell 2;have l2:wz.cell? ⟨w.heap.size+1,2,none⟩=some (.int .i64 x.cd):=HR2.out.cell 2;have k3:wz.cell? ⟨w.heap.size,3,none⟩=some (.int .i64 x.tr):=HR1.out.cell 3;have l3:wz.cell? ⟨w.heap.size+1,3,none⟩=some (.int .i64 x.tr):=HR2.out.cell 3;have k4:wz.cell? ⟨w.heap.size,4,none⟩=some (.slice a1 x.tg.length c1):=HR1.out.cell 4;have l4:wz.cell? ⟨w.heap.size+1,4,none⟩=some (.slice a2 x.tg.length c2):=HR2.out.cell 4;go_wp2_with fail
 clear k0 k1 k2 k3 k4 l0 l1 l2 l3 l4 t0 t1 t2 t3
 go_loopw [5] (fun i wr=>SiL w x.tg.length #[.int .i64 x.pl,.int .i64 x.id,.int .i64 x.cd,.int .i64 x.tr,.slice a1 x.tg.length c1] #[.int .i64 x.pl,.int .i64 x.id,.int .i64 x.cd,.int .i64 x.tr,.slice a2 x.tg.length c2] i wr) (fun i _=>x.tg.length-(intOf i).toNat)
 case atStart=>exact⟨0,by omega,rfl,HB.out,HR1.out,HR2.out⟩
 case round=>
  obtain⟨k,hk,rfl,hb,hr1,hr2⟩:=hrel
  replace HB:=Lib.hid hb;replace HR1:=Lib.hid hr1;replace HR2:=Lib.hid hr2;have k4:wr.cell? ⟨w.heap.size,4,none⟩=some (.slice a1 x.tg.length c1):=hr1.cell 4;have l4:wr.cell? ⟨w.heap.size+1,4,none⟩=some (.slice a2 x.tg.length c2):=hr2.cell 4;have p1:=hr1.lt;have p2:=hr2.lt;clear hr1 hr2
  by_cases hkl:k<x.tg.length
  ·obtain⟨b1,o1,rfl,hlt1,hc1⟩:=HF1.out (by omega)
   obtain⟨b2,o2,rfl,hlt2,hc2⟩:=HF2.out (by omega)
   obtain⟨t,ht⟩:∃t,x.tg[k]? =some t:=⟨_,List.getElem?_eq_getElem hkl⟩
   have d1:wr.cell? ⟨b1,o1+k*2,none⟩=some (.int .i64 t.id):=(hb.cell (p:=⟨b1,o1+k*2,none⟩) hlt1).trans (hc1 k t ht 0 _ rfl);have e1:wr.cell? ⟨b1,o1+k*2+1,none⟩=some (.int .i64 t.pl):=(hb.cell (p:=⟨b1,o1+k*2+1,none⟩) hlt1).trans (hc1 k t ht 1 _ rfl);have d2:wr.cell? ⟨b2,o2+k*2,none⟩=some (.int .i64 t.id):=(hb.cell (p:=⟨b2,o2+k*2,none⟩) hlt2).trans (hc2 k t ht 0 _ rfl);have e2:wr.cell? ⟨b2,o2+k*2+1,none⟩=some (.int .i64 t.pl):=(hb.cell (p:=⟨b2,o2+k*2+1,none⟩) hlt2).trans (hc2 k t ht 1 _ rfl);have g1:b1<wr.heap.size:=Nat.lt_of_lt_of_le hlt1 hb.size;have g2:b2<wr.heap.size:=Nat.lt_of_lt_of_le hlt2 hb.size;have i1:(0:Int)≤(k:Int):=by omega
   have i2:(k:Int)<(x.tg.length:Int):=by omega
   clear hc1 hc2 ht hb
   go_upto_region 6 with fail
   refine rg10_6 (w0:=wr) (B:=wr.heap.size) (n:=wr.heap.size) (L:=[]) (by kernel_rfl) rfl (by kernel_rfl) (.t ⟨by go_grown,by go_size,(by simp[go_sem]<;>omega)⟩) (fun w21 K_w21 E_w21 F_w21=> ?_);have _ne:Nonempty (KX (wr.heap.size) wr (wr.heap.size) [] (fun _=>True)):=⟨⟨_,K_w21,E_w21⟩⟩
   repeat (go_big_quiet_step (fail))
   refine wpQuiet_nil ?_;have ra:=rck _ne d1 g1;have ra':∀s:KX (wr.heap.size) wr (wr.heap.size) [] (fun _=>True),s.val.cell? ⟨b1,o1+k*2+1,none⟩=some (.int .i64 t.pl):=fun s=>(s.kept.below.cell (p:=⟨b1,o1+k*2+1,none⟩) g1).trans e1
   have rb:=rck _ne d2 g2;have rb':∀s:KX (wr.heap.size) wr (wr.heap.size) [] (fun _=>True),s.val.cell? ⟨b2,o2+k*2+1,none⟩=some (.int .i64 t.pl):=fun s=>(s.kept.below.cell (p:=⟨b2,o2+k*2+1,none⟩) g2).trans e2
   have rk:=rck _ne k4 p1;have rl:=rck _ne l4 p2
   repeat (go_big_quiet_step (fail))
   refine wpQuiet_nil ?_
   repeat (go_big_quiet_step (fail))
   refine wpQuiet_nil ?_
   repeat (go_big_quiet_step (fail))
   refine wpQuiet_nil ?_
   repeat (go_big_quiet_step (fail))
   refine wpQuiet_nil ?_
   repeat (go_big_quiet_step (fail))
   refine wpQuiet_nil ?_
   repeat (go_big_quiet_step (fail))
   refine wpQuiet_nil ?_;clear ra ra' rb rb' rk rl;clear _ne;have KH_w21:=Lib.hid K_w21;have hw_w21:=K_w21.below;have hz_w21:=K_w21.size;clear K_w21;clear E_w21 F_w21;go_wp2_with fail
   replace HB:=Lib.hid (below_via HB.out hw_w21);replace HR1:=Lib.hid (HR1.out.below hw_w21);replace HR2:=Lib.hid (HR2.out.below hw_w21)
   go_roundw
   case rel=>exact⟨k+1,by omega,by go_num,HB.out,HR1.out,HR2.out⟩
   case measure=>simp[intOf];omega
  ·clear hb
   go_wp2_with fail
   go_returns
   exact⟨rfl,HB.out⟩
set_option maxRecDepth 100000 in
set_option maxHeartbeats 4000000 in
theorem ritems(v1 v2:Value)(l:List It)(w:World)(h1:ItR w v1 l)(h2:ItR w v2 l):Calls Try.prog 53 #[v1,v2] w fun e w' =>e= .returned (.bool true)∧Below w.heap.size w w':=by
 obtain⟨m1,hm1,h1,ht1⟩:=h1
 obtain⟨m2,hm2,h2,ht2⟩:=h2
 obtain⟨hm,a1,c1,rfl,hf1⟩:=h1.form
 obtain⟨_,a2,c2,rfl,hf2⟩:=h2.form
 have en1:m1.length=l.length:=by rw[←hm1,List.length_map]
 have en2:m2.length=l.length:=by rw[←hm2,List.length_map]
 rw[en1] at hm hf1 ⊢
 rw[en2] at hf2 ⊢
 have HF1:=Lib.hid hf1;have HF2:=Lib.hid hf2;have HM1:=Lib.hid hm1;have HM2:=Lib.hid hm2;have HE1:=Lib.hid en1;have HE2:=Lib.hid en2;have HU1:=Lib.hid ht1;have HU2:=Lib.hid ht2;clear h1 h2 hf1 hf2 hm1 hm2 en1 en2 ht1 ht2;have hne:(l.length !=l.length)=false:=by simp
 have hne2:((l.length:Int) !=(l.length:Int))=false:=by simp
 go_enter Try.func53,Try.ntmps53;go_wp2_with fail
 go_loopw [5] (fun i wr=>LsL w l.length i wr) (fun i _=>l.length-(intOf i).toNat)
 case atStart=>exact⟨0,by omega,rfl,Below.refl _ _⟩
 case round=>
  obtain⟨k,hk,rfl,hb⟩:=hrel
  have HB:=Lib.hid hb
  by_cases hkl:k<l.length
  ·obtain⟨b1,o1,rfl,hlt1,hc1⟩:=HF1.out (by omega)
   obtain⟨b2,o2,rfl,hlt2,hc2⟩:=HF2.out (by omega)
   obtain⟨y1,hy1⟩:∃x,m1[k]? =some x:=⟨_,List.getElem?_eq_getElem (by have:=HE1.out;omega)⟩
   obtain⟨y2,hy2⟩:∃x,m2[k]? =some x:=⟨_,List.getElem?_eq_getElem (by have:=HE2.out;omega)⟩
   have hx1:l[k]? =some y1.1:=by rw[←HM1.out,List.getElem?_map,hy1];rfl
   have hx2:l[k]? =some y2.1:=by rw[←HM2.out,List.getElem?_map,hy2];rfl
   have hxx:y2.1=y1.1:=by rw[hx1] at hx2;simpa using hx2.symm
   have ht1:=HU1.out y1 (List.mem_of_getElem? hy1);have ht2:=HU2.out y2 (List.mem_of_getElem? hy2)
   obtain⟨x,⟨ta,tn,tc1⟩⟩:=y1
   obtain⟨x2,⟨ua,un,uc1⟩⟩:=y2
   simp only at hxx
   subst hxx;change Rw tc 2 w (.slice ta tn tc1) x2.tg at ht1
   change Rw tc 2 w (.slice ua un uc1) x2.tg at ht2
   have ez1:=ht1.length;have ez2:=ht2.length;subst ez1 ez2
   obtain⟨x,hxe⟩:∃x,x=x2:=⟨_,rfl⟩
   subst hxe;have HT1:=Lib.hid ht1;have HT2:=Lib.hid ht2;have hdd:∀(j:Nat) (u:Value),(itc (x,⟨ta,x.tg.length,tc1⟩))[j]? =some u→wr.cell? ⟨b1,o1+(k*5+j),none⟩=some u:=fun j u hu=>(hb.cell (p:=⟨b1,o1+(k*5+j),none⟩) hlt1).trans (hc1 k _ hy1 j u hu)
   have hde:∀(j:Nat) (u:Value),(itc (x,⟨ua,x.tg.length,uc1⟩))[j]? =some u→wr.cell? ⟨b2,o2+(k*5+j),none⟩=some u:=fun j u hu=>(hb.cell (p:=⟨b2,o2+(k*5+j),none⟩) hlt2).trans (hc2 k _ hy2 j u hu)
   have d0:wr.cell? ⟨b1,o1+k*5,none⟩=some (.int .i64 x.pl):=hdd 0 _ rfl;have d1:=cA hdd 1 rfl;have d2:=cA hdd 2 rfl;have d3:=cA hdd 3 rfl;have d4:wr.cell? ⟨b1,o1+k*5+4,none⟩=some (.slice ta x.tg.length tc1):=by rw[Nat.add_assoc];exact hdd 4 _ rfl
   have e0:wr.cell? ⟨b2,o2+k*5,none⟩=some (.int .i64 x.pl):=hde 0 _ rfl;have e1:=cA hde 1 rfl;have e2:=cA hde 2 rfl;have e3:=cA hde 3 rfl;have e4:wr.cell? ⟨b2,o2+k*5+4,none⟩=some (.slice ua x.tg.length uc1):=by rw[Nat.add_assoc];exact hde 4 _ rfl
   have g1:b1<wr.heap.size:=Nat.lt_of_lt_of_le hlt1 hb.size;have g2:b2<wr.heap.size:=Nat.lt_of_lt_of_le hlt2 hb.size;have i1:(0:Int)≤(k:Int):=by omega
   have i2:(k:Int)<(l.length:Int):=by omega
   clear hc1 hc2 hy1 hy2 hx1 hx2 hb hdd hde ht1 ht2
   go_upto_region 6 with fail
   refine rg53_6 (w0:=wr) (B:=wr.heap.size) (n:=wr.heap.size) (L:=[]) (by kernel_rfl) rfl (by kernel_rfl) (.t ⟨by go_grown,by go_size,(by simp[go_sem]<;>omega)⟩) (fun w21 K_w21 E_w21 F_w21=> ?_);have _ne:Nonempty (KX (wr.heap.size) wr (wr.heap.size) [] (fun _=>True)):=⟨⟨_,K_w21,E_w21⟩⟩
   repeat (go_big_quiet_step (fail))
   refine wpQuiet_nil ?_;have rd0:=rck _ne d0 g1;have rd1:=rck _ne d1 g1;have rd2:=rck _ne d2 g1;have rd3:=rck _ne d3 g1;have rd4:=rck _ne d4 g1;have re0:=rck _ne e0 g2;have re1:=rck _ne e1 g2;have re2:=rck _ne e2 g2;have re3:=rck _ne e3 g2;have re4:=rck _ne e4 g2
   repeat (go_big_quiet_step (fail))
   refine wpQuiet_nil ?_;have KH_w21:=Lib.hid K_w21;have hw_w21:=K_w21.below;have hz_w21:=K_w21.size;clear K_w21;clear E_w21 F_w21
   refine⟨fun K hK0=> ?_,trivial⟩
   have hK:=Lib.hid hK0;clear hK0;replace HB:=Lib.hid (below_via HB.out hw_w21);clear hw_w21 hz_w21;go_wp2_with fail
   with_reducible refine(rsameitem _ _ _ _ x w21 (HT1.out.below HB.out) (HT2.out.below HB.out)).mono ?_
   rintro e w30 ⟨rfl,hb30⟩;replace HB:=Lib.hid (below_via HB.out hb30);clear hb30;go_wp2_with fail
   first|refine⟨rfl,hK.out _ _ ?_⟩|refine hK.out _ _ ?_
   clear hK K
   repeat (go_big_quiet_step (fail))
   refine wpQuiet_nil ?_;clear rd0 rd1 rd2 rd3 rd4 re0 re1 re2 re3 re4;clear _ne;go_wp2_with fail
   go_roundw
   case rel=>exact⟨k+1,by omega,by go_num,HB.out⟩
   case measure=>simp[intOf];omega
  ·clear hb
   go_wp2_with fail
   go_returns
   exact⟨rfl,HB.out⟩
end Go.Proofs.Ytpbepnpnpopmfaa
