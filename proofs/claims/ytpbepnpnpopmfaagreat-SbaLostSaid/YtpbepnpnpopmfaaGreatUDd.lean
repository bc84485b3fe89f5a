/- Objects that must die. -/
import Derived.Test.YtpbepnpnpopmfaaGreatTCe
import Derived.Deep.DeepCutAuto
import Derived.LoopTactic
import Derived.Deep.MidRow
open Go.RowKit Go.Proofs.YtpbepnpnpopmfaaGreat
namespace Go.Proofs.YtpbepnpnpopmfaaGreat
open Plain
set_option linter.unusedVariables false
set_option linter.unusedSimpArgs false

set_option maxRecDepth 100000 in
set_option maxHeartbeats 2000000 in
theorem clamp(n m:Int)(w:World):Calls Tryz.prog 121 #[.int .i64 n,.int .i64 m] w fun e w' =>e= .returned (.int .i64 (cl n m))/\w=w':=by
 go_enter Tryz.func121,Tryz.ntmps121
 go_wp2
 all_goals
  go_returns
  exact⟨ret_int (by unfold cl;omega),rfl⟩
set_option maxRecDepth 100000 in
set_option maxHeartbeats 2000000 in
theorem splus(a b:Int)(w:World)(ha:I a)(hb:I b):Calls Tryz.prog 122 #[.int .i64 a,.int .i64 b] w fun e w' =>e= .returned (.int .i64 (sat (a+b)))/\w=w':=by
 obtain⟨a0,a1⟩:=ha
 obtain⟨b0,b1⟩:=hb
 by_cases h1:9223372036854775807<a+b
 ·have hw:wrap64 (a+b)<=0:=by unfold wrap64;omega
  have hp:0<a:=by omega
  have hq:0<b:=by omega
  go_enter Tryz.func122,Tryz.ntmps122
  go_wp2
  all_goals
   go_returns
   exact⟨ret_int (by unfold sat;omega),rfl⟩
 by_cases h2:a+b< -9223372036854775808
 ·have hw:0<=wrap64 (a+b):=by unfold wrap64;omega
  have hp:a<0:=by omega
  have hq:b<0:=by omega
  go_enter Tryz.func122,Tryz.ntmps122
  go_wp2
  all_goals
   go_returns
   exact⟨ret_int (by unfold sat;omega),rfl⟩
 have h3:a+b<=9223372036854775807:=by omega
 have h4: -9223372036854775808<=a+b:=by omega
 clear h1 h2
 by_cases hp:0<a
 ·by_cases hq:0<b
  ·have hs:0<a+b:=by omega
   go_enter Tryz.func122,Tryz.ntmps122
   go_wp2
   all_goals
    go_returns
    exact⟨ret_int (by unfold sat;omega),rfl⟩
  clear h3 h4;have h3:a+b<=9223372036854775807:=by omega
  have h4: -9223372036854775808<=a+b:=by omega
  go_enter Tryz.func122,Tryz.ntmps122
  go_wp2
  all_goals
   go_returns
   exact⟨ret_int (by unfold sat;omega),rfl⟩
 by_cases hn:a<0
 ·by_cases hq:b<0
  ·have hs:a+b<0:=by omega
   go_enter Tryz.func122,Tryz.ntmps122
   go_wp2
   all_goals
    go_returns
    exact⟨ret_int (by unfold sat;omega),rfl⟩
  skip
  go_enter Tryz.func122,Tryz.ntmps122
  go_wp2
  all_goals
   go_returns
   exact⟨ret_int (by unfold sat;omega),rfl⟩
 skip
 go_enter Tryz.func122,Tryz.ntmps122
 go_wp2
 all_goals
  go_returns
  exact⟨ret_int (by unfold sat;omega),rfl⟩

set_option maxRecDepth 100000 in
set_option maxHeartbeats 2000000 in
theorem sadd(a b m:Int)(w:World)(ha:I a)(hb:I b)(hm:I m):Calls Tryz.prog 119 #[.int .i64 a,.int .i64 b,.int .i64 m] w fun e w' =>e= .returned (.int .i64 (cl (a+b) m))/\w=w':=by
 go_enter Tryz.func119,Tryz.ntmps119;go_wp2_with fail
 with_reducible refine(splus _ _ _ ha hb).mono ?_
 rintro e w' ⟨rfl,rfl⟩;go_wp2_with fail
 with_reducible refine(clamp _ _ _).mono ?_
 rintro e w' ⟨rfl,rfl⟩;go_wp2_with fail
 go_returns
 exact⟨ret_int (cl_sat _ hm),rfl⟩
theorem I_max{a:Int}(h:I a):I (max 0 a):=by unfold I at*;omega
set_option maxRecDepth 100000 in
set_option maxHeartbeats 2000000 in
theorem oplus(a b:Int)(w:World)(ha:I a)(hb:I b):Calls Tryz.prog 114 #[.int .i64 a,.int .i64 b] w fun e w' =>e= .returned (.int .i64 (ad a b))/\w=w':=by
 obtain⟨a0,a1⟩:=ha
 obtain⟨b0,b1⟩:=hb
 by_cases h1:0<a<;>by_cases h2:0<b
 all_goals
  have h3:=h1;have h4:=h2;go_enter Tryz.func114,Tryz.ntmps114;go_wp2_with fail
  with_reducible refine(sadd _ _ 99 _ (by unfold I;omega) (by unfold I;omega) (by unfold I;omega)).mono ?_
  rintro e w' ⟨rfl,rfl⟩;go_wp2_with fail
  go_returns
  exact⟨ret_int (by unfold ad cl;omega),rfl⟩
theorem oplusc(a b c:Int)(w:World)(ha:I a)(hb:I b)(hc:ad a b=c):Calls Tryz.prog 114 #[.int .i64 a,.int .i64 b] w fun e w' =>e= .returned (.int .i64 c)/\w=w':=by
 subst hc;exact oplus a b w ha hb
def baP(cs:List Cd)(o:Ob):Int:=if o.cd= -1 then o.po else (cardOf cs o.cd).pw
def baT(cs:List Cd)(o:Ob):Int:=if o.cd= -1 then o.tg else (cardOf cs o.cd).tg
def poB(cs:List Cd)(o:Ob):Int:=ad (ad (baP cs o) o.co) o.pp
def toB(cs:List Cd)(o:Ob):Int:=ad (ad (baT cs o) o.co) o.pt
def crB(cs:List Cd)(o:Ob):Bool:=decide (o.cd= -1)||(cardOf cs o.cd).kd==2
def deB(cs:List Cd)(o:Ob):Bool:=crB cs o&&(o.dm||decide (toB cs o=0)||decide (toB cs o<=o.da))
def CI(cs:List Cd):Prop:=∀c∈cs,I c.pw/\I c.tg
theorem CI.of{cs:List Cd}(h:CI cs)(n:Int):I (cardOf cs n).pw/\I (cardOf cs n).tg:=by
 have h0:I noCd.pw/\I noCd.tg:=⟨by simp[noCd,I],by simp[noCd,I]⟩;unfold cardOf
 split
 ·exact h0
 rw[List.getD_eq_getElem?_getD]
 cases hc:cs[n.toNat]? with
 |none=>exact h0
 |some c=>exact h c (List.mem_of_getElem? hc)
theorem I_baP{cs:List Cd}{o:Ob}(h:CI cs)(ho:o.I):I (baP cs o):=by unfold baP;split;exact ho.po;exact(h.of _).1
theorem I_baT{cs:List Cd}{o:Ob}(h:CI cs)(ho:o.I):I (baT cs o):=by unfold baT;split;exact ho.tg;exact(h.of _).2
theorem below_drewN{B:Nat}{a w:World}(h:Below B a w)(n:Nat):Below B a (w.drewN n):=⟨h.os,h.tape,h.output,h.size,h.block⟩
set_option maxRecDepth 100000 in
set_option maxHeartbeats 2000000 in
theorem obase(v:Value)(cs:List Cd)(o:Ob)(w:World)(hs:CRow w v cs):Calls Tryz.prog 113 #[v,.agg #[.int .i64 o.id,.int .i64 o.cd,.int .i64 o.ow,.int .i64 o.po,.int .i64 o.tg,.int .i64 o.da,.int .i64 o.co,.int .i64 o.pp,.int .i64 o.pt,.bool o.ta,.bool o.si,.bool o.dm]] w fun e w' =>e= .returned (.tuple #[.int .i64 (baP cs o),.int .i64 (baT cs o)])/\Below w.heap.size w w':=by
 by_cases h1:o.cd= -1
 ·have e1:Hid (o.po=baP cs o):=Hd (by unfold baP;rw[if_pos h1])
  have e2:Hid (o.tg=baT cs o):=Hd (by unfold baT;rw[if_pos h1]);have q:(o.cd== -1)=true:=by simpa using h1
  clear h1;go_enter Tryz.func113,Tryz.ntmps113;go_wp2_with fail
  go_quiet (fail)
  go_wp2_with fail
  go_returns
  exact⟨ret_two e1.out e2.out,below_drewN (by go_grown) _⟩
 have e1:Hid ((cardOf cs o.cd).pw=baP cs o):=Hd (by unfold baP;rw[if_neg h1]);have e2:Hid ((cardOf cs o.cd).tg=baT cs o):=Hd (by unfold baT;rw[if_neg h1]);have q:(o.cd== -1)=false:=by simpa using h1
 clear h1;go_enter Tryz.func113,Tryz.ntmps113;go_wp2_with fail
 with_reducible refine(look v cs o _ (hs.below (by go_grown))).mono ?_
 rintro e w1 ⟨rfl,hb1⟩;have hw1:Below w.heap.size w w1:=below_via (by go_grown) hb1;have hz1:=hw1.size;clear hb1;go_wp2_with fail
 go_quiet (fail)
 go_wp2_with fail
 go_returns
 exact⟨ret_two e1.out e2.out,below_drewN (by go_grown) _⟩
theorem rg95_2{P:Program}{B n:Nat}{w0:World}{L:List (Nat×Nat×Value)}{E F:World->Prop}{id:Nat}{Q:Exit->Act->World->Prop}{a:Act}{w:World}{A:Array Oper}{o0 o1 o2 o3 o4 o5 o6 o7:Oper}(hm:P.follows .mixedOrders=true)(hA:A=[o0,o1,o2,o3,o4,o5,o6,o7].toArray)(hB:regOk A [2,5] [0,1,4,7] (.fs [0,1,4] (.rs [2,5] (.alt 3 (.altc 6 (.fs [7] .done) .stop) .stop)))=true)(c:RC B w0 n L E F w)
  (h:∀wk,Kept B w0 n L wk->E wk->F wk->wpQuiet P A (fun _=>True) (fun a0=>wpQuiet P A (fun w' =>∃s:KX B w0 n L E,w' =s.val) (fun a1=>((∀K2:Act->World->Prop,(∀a2 w2,((∀K3:Act->World->Prop,(∀a3 w3,wpQuiet P A (fun _=>True) (fun a4=>Q .normal a4 w3) [o7] a3->K3 a3 w3)->wpList P A (fun e a3 w3=>e= .normal/\K3 a3 w3) [o6] a2 w2)/\True)->K2 a2 w2)->wpList P A (fun e a2 w2=>e= .normal/\(∃s:KX B w0 n L E,w2=s.val)/\K2 a2 w2) [o3] a1 wk)/\True)) [o2,o5] a0) [o0,o1,o4] a):(Code.region id A true).wp P Q a w:=by
 subst hA;exact wp_reg _ _ _ hm hB c (fun wk k e f=>have g:=h wk k e f;Scr.of_fs _ _ rfl g fun _ g=>Scr.of_rs _ _ rfl g fun _ g=>(Scr.of_alt rfl (g.1 _ fun _ _ g=>g) (fun _ _ g=>(Scr.of_altc rfl (g.1 _ fun _ _ g=>g) (fun _ _ g=>Scr.of_fs _ _ rfl g fun _ g=>g) trivial)) trivial))
set_option maxRecDepth 100000 in
set_option maxHeartbeats 2000000 in
theorem otough(v:Value)(cs:List Cd)(o:Ob)(w:World)(hs:CRow w v cs)(hc:CI cs)(ho:o.I):Calls Tryz.prog 95 #[v,.agg #[.int .i64 o.id,.int .i64 o.cd,.int .i64 o.ow,.int .i64 o.po,.int .i64 o.tg,.int .i64 o.da,.int .i64 o.co,.int .i64 o.pp,.int .i64 o.pt,.bool o.ta,.bool o.si,.bool o.dm]] w fun e w' =>e= .returned (.int .i64 (toB cs o))/\Below w.heap.size w w':=by
 go_enter Tryz.func95,Tryz.ntmps95;go_wp2_with fail
 with_reducible refine(obase v cs o _ (hs.below (by go_grown))).mono ?_
 rintro e w1 ⟨rfl,hb_w1⟩;have K_w1:Kept w.heap.size w (w.heap.size+1) [(w.heap.size,0,.int .i64 o.id),(w.heap.size,1,.int .i64 o.cd),(w.heap.size,2,.int .i64 o.ow),(w.heap.size,3,.int .i64 o.po),(w.heap.size,4,.int .i64 o.tg),(w.heap.size,5,.int .i64 o.da),(w.heap.size,6,.int .i64 o.co),(w.heap.size,7,.int .i64 o.pp),(w.heap.size,8,.int .i64 o.pt),(w.heap.size,9,.bool o.ta),(w.heap.size,10,.bool o.si),(w.heap.size,11,.bool o.dm)] w1:=Kept.of hb_w1 (by go_grown) (by go_size) (by omega) (by simp[go_sem]<;>omega);clear hb_w1;have KH_w1:=Hd K_w1;have hw_w1:=K_w1.below;have hz_w1:=K_w1.size;have lB_w1:w.heap.size<w1.heap.size:=by omega
 clear K_w1;go_wp2_with fail
 refine rg95_2 (w0:=w) (B:=w.heap.size) (n:=w.heap.size+1) (L:=[(w.heap.size,0,.int .i64 o.id),(w.heap.size,1,.int .i64 o.cd),(w.heap.size,2,.int .i64 o.ow),(w.heap.size,3,.int .i64 o.po),(w.heap.size,4,.int .i64 o.tg),(w.heap.size,5,.int .i64 o.da),(w.heap.size,6,.int .i64 o.co),(w.heap.size,7,.int .i64 o.pp),(w.heap.size,8,.int .i64 o.pt),(w.heap.size,9,.bool o.ta),(w.heap.size,10,.bool o.si),(w.heap.size,11,.bool o.dm)]) (by kernel_rfl) rfl (by kernel_rfl) (.t (KH_w1.o.step (by omega) (by go_grown))) (fun w2 K_w2 E_w2 F_w2=> ?_);have _ne:Nonempty (KX (w.heap.size) w (w.heap.size+1) [(w.heap.size,0,.int .i64 o.id),(w.heap.size,1,.int .i64 o.cd),(w.heap.size,2,.int .i64 o.ow),(w.heap.size,3,.int .i64 o.po),(w.heap.size,4,.int .i64 o.tg),(w.heap.size,5,.int .i64 o.da),(w.heap.size,6,.int .i64 o.co),(w.heap.size,7,.int .i64 o.pp),(w.heap.size,8,.int .i64 o.pt),(w.heap.size,9,.bool o.ta),(w.heap.size,10,.bool o.si),(w.heap.size,11,.bool o.dm)] (fun _=>True)):=⟨⟨_,K_w2,E_w2⟩⟩
 repeat (go_big_quiet_step (fail))
 refine wpQuiet_nil ?_;have rB0:∀s:KX (w.heap.size) w (w.heap.size+1) [(w.heap.size,0,.int .i64 o.id),(w.heap.size,1,.int .i64 o.cd),(w.heap.size,2,.int .i64 o.ow),(w.heap.size,3,.int .i64 o.po),(w.heap.size,4,.int .i64 o.tg),(w.heap.size,5,.int .i64 o.da),(w.heap.size,6,.int .i64 o.co),(w.heap.size,7,.int .i64 o.pp),(w.heap.size,8,.int .i64 o.pt),(w.heap.size,9,.bool o.ta),(w.heap.size,10,.bool o.si),(w.heap.size,11,.bool o.dm)] (fun _=>True),s.val.cell? ⟨w.heap.size,0,none⟩=some (.int .i64 o.id):=fun s=>s.kept.at (by simp)
 have rB1:∀s:KX (w.heap.size) w (w.heap.size+1) [(w.heap.size,0,.int .i64 o.id),(w.heap.size,1,.int .i64 o.cd),(w.heap.size,2,.int .i64 o.ow),(w.heap.size,3,.int .i64 o.po),(w.heap.size,4,.int .i64 o.tg),(w.heap.size,5,.int .i64 o.da),(w.heap.size,6,.int .i64 o.co),(w.heap.size,7,.int .i64 o.pp),(w.heap.size,8,.int .i64 o.pt),(w.heap.size,9,.bool o.ta),(w.heap.size,10,.bool o.si),(w.heap.size,11,.bool o.dm)] (fun _=>True),s.val.cell? ⟨w.heap.size,1,none⟩=some (.int .i64 o.cd):=fun s=>s.kept.at (by simp)
 have rB2:∀s:KX (w.heap.size) w (w.heap.size+1) [(w.heap.size,0,.int .i64 o.id),(w.heap.size,1,.int .i64 o.cd),(w.heap.size,2,.int .i64 o.ow),(w.heap.size,3,.int .i64 o.po),(w.heap.size,4,.int .i64 o.tg),(w.heap.size,5,.int .i64 o.da),(w.heap.size,6,.int .i64 o.co),(w.heap.size,7,.int .i64 o.pp),(w.heap.size,8,.int .i64 o.pt),(w.heap.size,9,.bool o.ta),(w.heap.size,10,.bool o.si),(w.heap.size,11,.bool o.dm)] (fun _=>True),s.val.cell? ⟨w.heap.size,2,none⟩=some (.int .i64 o.ow):=fun s=>s.kept.at (by simp)
 have rB3:∀s:KX (w.heap.size) w (w.heap.size+1) [(w.heap.size,0,.int .i64 o.id),(w.heap.size,1,.int .i64 o.cd),(w.heap.size,2,.int .i64 o.ow),(w.heap.size,3,.int .i64 o.po),(w.heap.size,4,.int .i64 o.tg),(w.heap.size,5,.int .i64 o.da),(w.heap.size,6,.int .i64 o.co),(w.heap.size,7,.int .i64 o.pp),(w.heap.size,8,.int .i64 o.pt),(w.heap.size,9,.bool o.ta),(w.heap.size,10,.bool o.si),(w.heap.size,11,.bool o.dm)] (fun _=>True),s.val.cell? ⟨w.heap.size,3,none⟩=some (.int .i64 o.po):=fun s=>s.kept.at (by simp)
 have rB4:∀s:KX (w.heap.size) w (w.heap.size+1) [(w.heap.size,0,.int .i64 o.id),(w.heap.size,1,.int .i64 o.cd),(w.heap.size,2,.int .i64 o.ow),(w.heap.size,3,.int .i64 o.po),(w.heap.size,4,.int .i64 o.tg),(w.heap.size,5,.int .i64 o.da),(w.heap.size,6,.int .i64 o.co),(w.heap.size,7,.int .i64 o.pp),(w.heap.size,8,.int .i64 o.pt),(w.heap.size,9,.bool o.ta),(w.heap.size,10,.bool o.si),(w.heap.size,11,.bool o.dm)] (fun _=>True),s.val.cell? ⟨w.heap.size,4,none⟩=some (.int .i64 o.tg):=fun s=>s.kept.at (by simp)
 have rB5:∀s:KX (w.heap.size) w (w.heap.size+1) [(w.heap.size,0,.int .i64 o.id),(w.heap.size,1,.int .i64 o.cd),(w.heap.size,2,.int .i64 o.ow),(w.heap.size,3,.int .i64 o.po),(w.heap.size,4,.int .i64 o.tg),(w.heap.size,5,.int .i64 o.da),(w.heap.size,6,.int .i64 o.co),(w.heap.size,7,.int .i64 o.pp),(w.heap.size,8,.int .i64 o.pt),(w.heap.size,9,.bool o.ta),(w.heap.size,10,.bool o.si),(w.heap.size,11,.bool o.dm)] (fun _=>True),s.val.cell? ⟨w.heap.size,5,none⟩=some (.int .i64 o.da):=fun s=>s.kept.at (by simp)
 have rB6:∀s:KX (w.heap.size) w (w.heap.size+1) [(w.heap.size,0,.int .i64 o.id),(w.heap.size,1,.int .i64 o.cd),(w.heap.size,2,.int .i64 o.ow),(w.heap.size,3,.int .i64 o.po),(w.heap.size,4,.int .i64 o.tg),(w.heap.size,5,.int .i64 o.da),(w.heap.size,6,.int .i64 o.co),(w.heap.size,7,.int .i64 o.pp),(w.heap.size,8,.int .i64 o.pt),(w.heap.size,9,.bool o.ta),(w.heap.size,10,.bool o.si),(w.heap.size,11,.bool o.dm)] (fun _=>True),s.val.cell? ⟨w.heap.size,6,none⟩=some (.int .i64 o.co):=fun s=>s.kept.at (by simp)
 have rB7:∀s:KX (w.heap.size) w (w.heap.size+1) [(w.heap.size,0,.int .i64 o.id),(w.heap.size,1,.int .i64 o.cd),(w.heap.size,2,.int .i64 o.ow),(w.heap.size,3,.int .i64 o.po),(w.heap.size,4,.int .i64 o.tg),(w.heap.size,5,.int .i64 o.da),(w.heap.size,6,.int .i64 o.co),(w.heap.size,7,.int .i64 o.pp),(w.heap.size,8,.int .i64 o.pt),(w.heap.size,9,.bool o.ta),(w.heap.size,10,.bool o.si),(w.heap.size,11,.bool o.dm)] (fun _=>True),s.val.cell? ⟨w.heap.size,7,none⟩=some (.int .i64 o.pp):=fun s=>s.kept.at (by simp)
 have rB8:∀s:KX (w.heap.size) w (w.heap.size+1) [(w.heap.size,0,.int .i64 o.id),(w.heap.size,1,.int .i64 o.cd),(w.heap.size,2,.int .i64 o.ow),(w.heap.size,3,.int .i64 o.po),(w.heap.size,4,.int .i64 o.tg),(w.heap.size,5,.int .i64 o.da),(w.heap.size,6,.int .i64 o.co),(w.heap.size,7,.int .i64 o.pp),(w.heap.size,8,.int .i64 o.pt),(w.heap.size,9,.bool o.ta),(w.heap.size,10,.bool o.si),(w.heap.size,11,.bool o.dm)] (fun _=>True),s.val.cell? ⟨w.heap.size,8,none⟩=some (.int .i64 o.pt):=fun s=>s.kept.at (by simp)
 have rB9:∀s:KX (w.heap.size) w (w.heap.size+1) [(w.heap.size,0,.int .i64 o.id),(w.heap.size,1,.int .i64 o.cd),(w.heap.size,2,.int .i64 o.ow),(w.heap.size,3,.int .i64 o.po),(w.heap.size,4,.int .i64 o.tg),(w.heap.size,5,.int .i64 o.da),(w.heap.size,6,.int .i64 o.co),(w.heap.size,7,.int .i64 o.pp),(w.heap.size,8,.int .i64 o.pt),(w.heap.size,9,.bool o.ta),(w.heap.size,10,.bool o.si),(w.heap.size,11,.bool o.dm)] (fun _=>True),s.val.cell? ⟨w.heap.size,9,none⟩=some (.bool o.ta):=fun s=>s.kept.at (by simp)
 have rB10:∀s:KX (w.heap.size) w (w.heap.size+1) [(w.heap.size,0,.int .i64 o.id),(w.heap.size,1,.int .i64 o.cd),(w.heap.size,2,.int .i64 o.ow),(w.heap.size,3,.int .i64 o.po),(w.heap.size,4,.int .i64 o.tg),(w.heap.size,5,.int .i64 o.da),(w.heap.size,6,.int .i64 o.co),(w.heap.size,7,.int .i64 o.pp),(w.heap.size,8,.int .i64 o.pt),(w.heap.size,9,.bool o.ta),(w.heap.size,10,.bool o.si),(w.heap.size,11,.bool o.dm)] (fun _=>True),s.val.cell? ⟨w.heap.size,10,none⟩=some (.bool o.si):=fun s=>s.kept.at (by simp)
 have rB11:∀s:KX (w.heap.size) w (w.heap.size+1) [(w.heap.size,0,.int .i64 o.id),(w.heap.size,1,.int .i64 o.cd),(w.heap.size,2,.int .i64 o.ow),(w.heap.size,3,.int .i64 o.po),(w.heap.size,4,.int .i64 o.tg),(w.heap.size,5,.int .i64 o.da),(w.heap.size,6,.int .i64 o.co),(w.heap.size,7,.int .i64 o.pp),(w.heap.size,8,.int .i64 o.pt),(w.heap.size,9,.bool o.ta),(w.heap.size,10,.bool o.si),(w.heap.size,11,.bool o.dm)] (fun _=>True),s.val.cell? ⟨w.heap.size,11,none⟩=some (.bool o.dm):=fun s=>s.kept.at (by simp)
 repeat (go_big_quiet_step (fail))
 refine wpQuiet_nil ?_;have KH_w2:=Hd K_w2;have hw_w2:=K_w2.below;have hz_w2:=K_w2.size;have lB_w2:w.heap.size<w2.heap.size:=by omega
 clear lB_w1;clear K_w2;clear E_w2 F_w2
 refine⟨fun K hK0=> ?_,trivial⟩
 have hK:=Hd hK0;clear hK0;go_wp2_with fail
 with_reducible refine(oplus (baT cs o) o.co _ (I_baT hc ho) ho.co).mono ?_
 rintro e w' ⟨rfl,rfl⟩;go_wp2_with fail
 first|refine⟨rfl,?u,hK.o _ _ ?_⟩|refine⟨?u,hK.o _ _ ?_⟩
 case u=>exact⟨⟨_,KH_w2.o,trivial⟩,rfl⟩
 clear hK K
 refine⟨fun K hK0=> ?_,trivial⟩
 have hK:=Hd hK0;clear hK0;go_wp2_with fail
 with_reducible refine(oplus _ o.pt _ (I_ad _ _) ho.pt).mono ?_
 rintro e w' ⟨rfl,rfl⟩;go_wp2_with fail
 first|refine⟨rfl,hK.o _ _ ?_⟩|refine hK.o _ _ ?_
 clear hK K
 repeat (go_big_quiet_step (fail))
 refine wpQuiet_nil ?_;clear rB0 rB1 rB2 rB3 rB4 rB5 rB6 rB7 rB8 rB9 rB10 rB11;clear _ne;go_wp2_with fail
 go_returns
 exact⟨rfl,by go_grown⟩

set_option maxRecDepth 100000 in
set_option maxHeartbeats 2000000 in
theorem ocreature(v:Value)(cs:List Cd)(o:Ob)(w:World)(hs:CRow w v cs):Calls Tryz.prog 94 #[v,.agg #[.int .i64 o.id,.int .i64 o.cd,.int .i64 o.ow,.int .i64 o.po,.int .i64 o.tg,.int .i64 o.da,.int .i64 o.co,.int .i64 o.pp,.int .i64 o.pt,.bool o.ta,.bool o.si,.bool o.dm]] w fun e w' =>e= .returned (.bool (crB cs o))/\Below w.heap.size w w':=by
 by_cases h1:o.cd= -1
 ·have e1:Hid (crB cs o=true):=Hd (by simp[crB,h1])
  have q:(o.cd== -1)=true:=by simpa using h1
  clear h1;go_enter Tryz.func94,Tryz.ntmps94;go_wp2_with fail
  go_returns
  exact⟨ret_bool e1.out.symm,by go_grown⟩
 have e1:Hid (((cardOf cs o.cd).kd==2)=crB cs o):=Hd (by simp[crB,h1]);have q:(o.cd== -1)=false:=by simpa using h1
 have hfl:∀w,(Instr.field 64 (.agg #[.string (cardOf cs o.cd).nm,.int .i64 (cardOf cs o.cd).kd,.int .i64 (cardOf cs o.cd).c0,.int .i64 (cardOf cs o.cd).c1,.int .i64 (cardOf cs o.cd).c2,.int .i64 (cardOf cs o.cd).c3,.int .i64 (cardOf cs o.cd).c4,.int .i64 (cardOf cs o.cd).mc,.int .i64 (cardOf cs o.cd).pw,.int .i64 (cardOf cs o.cd).tg,.int .i64 (cardOf cs o.cd).kw,.slice (cardOf cs o.cd).ea (cardOf cs o.cd).el (cardOf cs o.cd).ec,.slice (cardOf cs o.cd).ta (cardOf cs o.cd).tl (cardOf cs o.cd).tc,.int .i64 (cardOf cs o.cd).ra]) 1).run Tryz.prog w= .ok (.int .i64 (cardOf cs o.cd).kd) w:=fun _=>by kernel_rfl
 clear h1;go_enter Tryz.func94,Tryz.ntmps94;go_wp2_with fail
 with_reducible refine(look v cs o _ (hs.below (by go_grown))).mono ?_
 rintro e w1 ⟨rfl,hb1⟩;have hw1:Below w.heap.size w w1:=below_via (by go_grown) hb1;have hz1:=hw1.size;clear hb1;go_wp2_with fail
 go_returns
 exact⟨ret_bool e1.out,by go_grown⟩
theorem ocreaturec(v:Value)(cs:List Cd)(o:Ob)(w:World)(hs:CRow w v cs)(b:Bool)(h:crB cs o=b):Calls Tryz.prog 94 #[v,.agg #[.int .i64 o.id,.int .i64 o.cd,.int .i64 o.ow,.int .i64 o.po,.int .i64 o.tg,.int .i64 o.da,.int .i64 o.co,.int .i64 o.pp,.int .i64 o.pt,.bool o.ta,.bool o.si,.bool o.dm]] w fun e w' =>e= .returned (.bool b)/\Below w.heap.size w w':=by
 subst h;exact ocreature v cs o w hs
theorem otoughc(v:Value)(cs:List Cd)(o:Ob)(w:World)(hs:CRow w v cs)(hc:CI cs)(ho:o.I)(t:Int)(h:toB cs o=t):Calls Tryz.prog 95 #[v,.agg #[.int .i64 o.id,.int .i64 o.cd,.int .i64 o.ow,.int .i64 o.po,.int .i64 o.tg,.int .i64 o.da,.int .i64 o.co,.int .i64 o.pp,.int .i64 o.pt,.bool o.ta,.bool o.si,.bool o.dm]] w fun e w' =>e= .returned (.int .i64 t)/\Below w.heap.size w w':=by
 subst h;exact otough v cs o w hs hc ho
set_option maxRecDepth 100000 in
set_option maxHeartbeats 2000000 in
theorem odead_no(v:Value)(cs:List Cd)(o:Ob)(w:World)(hs:CRow w v cs)(hcr:crB cs o=false):Calls Tryz.prog 70 #[v,.agg #[.int .i64 o.id,.int .i64 o.cd,.int .i64 o.ow,.int .i64 o.po,.int .i64 o.tg,.int .i64 o.da,.int .i64 o.co,.int .i64 o.pp,.int .i64 o.pt,.bool o.ta,.bool o.si,.bool o.dm]] w fun e w' =>e= .returned (.bool (deB cs o))/\Below w.heap.size w w':=by
 have ef:Hid (deB cs o=false):=Hd (by simp[deB,hcr]);have h1:=Hd hcr;clear hcr;go_enter Tryz.func70,Tryz.ntmps70;go_wp2_with fail
 with_reducible refine(ocreaturec v cs o _ (hs.below (by go_grown)) false h1.out).mono ?_
 rintro e w1 ⟨rfl,hb_w1⟩;have K_w1:Kept w.heap.size w (w.heap.size+1) [(w.heap.size,0,.int .i64 o.id),(w.heap.size,1,.int .i64 o.cd),(w.heap.size,2,.int .i64 o.ow),(w.heap.size,3,.int .i64 o.po),(w.heap.size,4,.int .i64 o.tg),(w.heap.size,5,.int .i64 o.da),(w.heap.size,6,.int .i64 o.co),(w.heap.size,7,.int .i64 o.pp),(w.heap.size,8,.int .i64 o.pt),(w.heap.size,9,.bool o.ta),(w.heap.size,10,.bool o.si),(w.heap.size,11,.bool o.dm)] w1:=Kept.of hb_w1 (by go_grown) (by go_size) (by omega) (by simp[go_sem]<;>omega);clear hb_w1;have KH_w1:=Hd K_w1;have hw_w1:=K_w1.below;have hz_w1:=K_w1.size;have lB_w1:w.heap.size<w1.heap.size:=by omega
 clear K_w1;go_wp2_with fail
 go_returns
 exact⟨ret_bool ef.out.symm,by go_grown⟩
set_option maxRecDepth 100000 in
set_option maxHeartbeats 2000000 in
theorem odead_false(v:Value)(cs:List Cd)(o:Ob)(w:World)(hs:CRow w v cs)(hc:CI cs)(ho:o.I)(hcr:crB cs o=true):Calls Tryz.prog 70 #[v,.agg #[.int .i64 o.id,.int .i64 o.cd,.int .i64 o.ow,.int .i64 o.po,.int .i64 o.tg,.int .i64 o.da,.int .i64 o.co,.int .i64 o.pp,.int .i64 o.pt,.bool o.ta,.bool o.si,.bool false]] w fun e w' =>e= .returned (.bool (deB cs {o with dm:=false}))/\Below w.heap.size w w':=by
 obtain⟨t,ht⟩:∃t,toB cs {o with dm:=false}=t:=⟨_,rfl⟩
 have h2:=Hd ht;have h1:Hid (crB cs {o with dm:=false}=true):=Hd hcr;have HO:Hid ({o with dm:=false}:Ob).I:=Hd ⟨ho.id,ho.cd,ho.ow,ho.po,ho.tg,ho.da,ho.co,ho.pp,ho.pt⟩;have hcr2:=h1.out
 by_cases ht0:t=0
 ·have ef:Hid (deB cs {o with dm:=false}=true):=Hd (by simp only[deB,hcr2,ht];simp[ht0])
  have q:(t==0)=true:=by simpa using ht0
  clear hcr hcr2 ht ht0;go_enter Tryz.func70,Tryz.ntmps70;go_wp2_with fail
  with_reducible refine(ocreaturec v cs {o with dm:=false} _ (hs.below (by go_grown)) true h1.out).mono ?_
  rintro e w1 ⟨rfl,hb_w1⟩;have K_w1:Kept w.heap.size w (w.heap.size+1) [(w.heap.size,0,.int .i64 o.id),(w.heap.size,1,.int .i64 o.cd),(w.heap.size,2,.int .i64 o.ow),(w.heap.size,3,.int .i64 o.po),(w.heap.size,4,.int .i64 o.tg),(w.heap.size,5,.int .i64 o.da),(w.heap.size,6,.int .i64 o.co),(w.heap.size,7,.int .i64 o.pp),(w.heap.size,8,.int .i64 o.pt),(w.heap.size,9,.bool o.ta),(w.heap.size,10,.bool o.si),(w.heap.size,11,.bool false)] w1:=Kept.of hb_w1 (by go_grown) (by go_size) (by omega) (by simp[go_sem]<;>omega);clear hb_w1;have KH_w1:=Hd K_w1;have hw_w1:=K_w1.below;have hz_w1:=K_w1.size;have lB_w1:w.heap.size<w1.heap.size:=by omega
  clear K_w1;have cB0_w1:=KH_w1.o.at (b:=w.heap.size) (o:=0) (v:= .int .i64 o.id) (by simp)
  have fB0_w1:=KH_w1.o.free (b:=w.heap.size) (o:=0) (v:= .int .i64 o.id) (by simp);have cB1_w1:=KH_w1.o.at (b:=w.heap.size) (o:=1) (v:= .int .i64 o.cd) (by simp)
  have fB1_w1:=KH_w1.o.free (b:=w.heap.size) (o:=1) (v:= .int .i64 o.cd) (by simp);have cB2_w1:=KH_w1.o.at (b:=w.heap.size) (o:=2) (v:= .int .i64 o.ow) (by simp)
  have fB2_w1:=KH_w1.o.free (b:=w.heap.size) (o:=2) (v:= .int .i64 o.ow) (by simp);have cB3_w1:=KH_w1.o.at (b:=w.heap.size) (o:=3) (v:= .int .i64 o.po) (by simp)
  have fB3_w1:=KH_w1.o.free (b:=w.heap.size) (o:=3) (v:= .int .i64 o.po) (by simp);have cB4_w1:=KH_w1.o.at (b:=w.heap.size) (o:=4) (v:= .int .i64 o.tg) (by simp)
  have fB4_w1:=KH_w1.o.free (b:=w.heap.size) (o:=4) (v:= .int .i64 o.tg) (by simp);have cB5_w1:=KH_w1.o.at (b:=w.heap.size) (o:=5) (v:= .int .i64 o.da) (by simp)
  have fB5_w1:=KH_w1.o.free (b:=w.heap.size) (o:=5) (v:= .int .i64 o.da) (by simp);have cB6_w1:=KH_w1.o.at (b:=w.heap.size) (o:=6) (v:= .int .i64 o.co) (by simp)
  have fB6_w1:=KH_w1.o.free (b:=w.heap.size) (o:=6) (v:= .int .i64 o.co) (by simp);have cB7_w1:=KH_w1.o.at (b:=w.heap.size) (o:=7) (v:= .int .i64 o.pp) (by simp)
  have fB7_w1:=KH_w1.o.free (b:=w.heap.size) (o:=7) (v:= .int .i64 o.pp) (by simp);have cB8_w1:=KH_w1.o.at (b:=w.heap.size) (o:=8) (v:= .int .i64 o.pt) (by simp)
  have fB8_w1:=KH_w1.o.free (b:=w.heap.size) (o:=8) (v:= .int .i64 o.pt) (by simp);have cB9_w1:=KH_w1.o.at (b:=w.heap.size) (o:=9) (v:= .bool o.ta) (by simp)
  have fB9_w1:=KH_w1.o.free (b:=w.heap.size) (o:=9) (v:= .bool o.ta) (by simp);have cB10_w1:=KH_w1.o.at (b:=w.heap.size) (o:=10) (v:= .bool o.si) (by simp)
  have fB10_w1:=KH_w1.o.free (b:=w.heap.size) (o:=10) (v:= .bool o.si) (by simp);have cB11_w1:=KH_w1.o.at (b:=w.heap.size) (o:=11) (v:= .bool false) (by simp)
  have fB11_w1:=KH_w1.o.free (b:=w.heap.size) (o:=11) (v:= .bool false) (by simp);go_wp2_with fail
  with_reducible refine(otoughc v cs {o with dm:=false} _ (hs.below (by go_grown)) hc HO.o t h2.out).mono ?_
  rintro e w2 ⟨rfl,hb_w2⟩;have K_w2:=(KH_w1.o.step (by omega) (by go_grown)).step (by omega) hb_w2;clear hb_w2;have KH_w2:=Hd K_w2;have hw_w2:=K_w2.below;have hz_w2:=K_w2.size;have lB_w2:w.heap.size<w2.heap.size:=by omega
  clear lB_w1 cB0_w1 fB0_w1 cB1_w1 fB1_w1 cB2_w1 fB2_w1 cB3_w1 fB3_w1 cB4_w1 fB4_w1 cB5_w1 fB5_w1 cB6_w1 fB6_w1 cB7_w1 fB7_w1 cB8_w1 fB8_w1 cB9_w1 fB9_w1 cB10_w1 fB10_w1 cB11_w1 fB11_w1;clear K_w2;have cB0_w2:=KH_w2.o.at (b:=w.heap.size) (o:=0) (v:= .int .i64 o.id) (by simp)
  have fB0_w2:=KH_w2.o.free (b:=w.heap.size) (o:=0) (v:= .int .i64 o.id) (by simp);have cB1_w2:=KH_w2.o.at (b:=w.heap.size) (o:=1) (v:= .int .i64 o.cd) (by simp)
  have fB1_w2:=KH_w2.o.free (b:=w.heap.size) (o:=1) (v:= .int .i64 o.cd) (by simp);have cB2_w2:=KH_w2.o.at (b:=w.heap.size) (o:=2) (v:= .int .i64 o.ow) (by simp)
  have fB2_w2:=KH_w2.o.free (b:=w.heap.size) (o:=2) (v:= .int .i64 o.ow) (by simp);have cB3_w2:=KH_w2.o.at (b:=w.heap.size) (o:=3) (v:= .int .i64 o.po) (by simp)
  have fB3_w2:=KH_w2.o.free (b:=w.heap.size) (o:=3) (v:= .int .i64 o.po) (by simp);have cB4_w2:=KH_w2.o.at (b:=w.heap.size) (o:=4) (v:= .int .i64 o.tg) (by simp)
  have fB4_w2:=KH_w2.o.free (b:=w.heap.size) (o:=4) (v:= .int .i64 o.tg) (by simp);have cB5_w2:=KH_w2.o.at (b:=w.heap.size) (o:=5) (v:= .int .i64 o.da) (by simp)
  have fB5_w2:=KH_w2.o.free (b:=w.heap.size) (o:=5) (v:= .int .i64 o.da) (by simp);have cB6_w2:=KH_w2.o.at (b:=w.heap.size) (o:=6) (v:= .int .i64 o.co) (by simp)
  have fB6_w2:=KH_w2.o.free (b:=w.heap.size) (o:=6) (v:= .int .i64 o.co) (by simp);have cB7_w2:=KH_w2.o.at (b:=w.heap.size) (o:=7) (v:= .int .i64 o.pp) (by simp)
  have fB7_w2:=KH_w2.o.free (b:=w.heap.size) (o:=7) (v:= .int .i64 o.pp) (by simp);have cB8_w2:=KH_w2.o.at (b:=w.heap.size) (o:=8) (v:= .int .i64 o.pt) (by simp)
  have fB8_w2:=KH_w2.o.free (b:=w.heap.size) (o:=8) (v:= .int .i64 o.pt) (by simp);have cB9_w2:=KH_w2.o.at (b:=w.heap.size) (o:=9) (v:= .bool o.ta) (by simp)
  have fB9_w2:=KH_w2.o.free (b:=w.heap.size) (o:=9) (v:= .bool o.ta) (by simp);have cB10_w2:=KH_w2.o.at (b:=w.heap.size) (o:=10) (v:= .bool o.si) (by simp)
  have fB10_w2:=KH_w2.o.free (b:=w.heap.size) (o:=10) (v:= .bool o.si) (by simp);have cB11_w2:=KH_w2.o.at (b:=w.heap.size) (o:=11) (v:= .bool false) (by simp)
  have fB11_w2:=KH_w2.o.free (b:=w.heap.size) (o:=11) (v:= .bool false) (by simp);go_wp2_with fail
  go_returns
  exact⟨ret_bool ef.out.symm,by go_grown⟩
 have q:(t==0)=false:=by simpa using ht0
 by_cases hda:t<=o.da
 ·have ef:Hid (deB cs {o with dm:=false}=true):=Hd (by simp only[deB,hcr2,ht];simp[hda])
  clear hcr hcr2 ht ht0;go_enter Tryz.func70,Tryz.ntmps70;go_wp2_with fail
  with_reducible refine(ocreaturec v cs {o with dm:=false} _ (hs.below (by go_grown)) true h1.out).mono ?_
  rintro e w1 ⟨rfl,hb_w1⟩;have K_w1:Kept w.heap.size w (w.heap.size+1) [(w.heap.size,0,.int .i64 o.id),(w.heap.size,1,.int .i64 o.cd),(w.heap.size,2,.int .i64 o.ow),(w.heap.size,3,.int .i64 o.po),(w.heap.size,4,.int .i64 o.tg),(w.heap.size,5,.int .i64 o.da),(w.heap.size,6,.int .i64 o.co),(w.heap.size,7,.int .i64 o.pp),(w.heap.size,8,.int .i64 o.pt),(w.heap.size,9,.bool o.ta),(w.heap.size,10,.bool o.si),(w.heap.size,11,.bool false)] w1:=Kept.of hb_w1 (by go_grown) (by go_size) (by omega) (by simp[go_sem]<;>omega);clear hb_w1;have KH_w1:=Hd K_w1;have hw_w1:=K_w1.below;have hz_w1:=K_w1.size;have lB_w1:w.heap.size<w1.heap.size:=by omega
  clear K_w1;have cB0_w1:=KH_w1.o.at (b:=w.heap.size) (o:=0) (v:= .int .i64 o.id) (by simp)
  have fB0_w1:=KH_w1.o.free (b:=w.heap.size) (o:=0) (v:= .int .i64 o.id) (by simp);have cB1_w1:=KH_w1.o.at (b:=w.heap.size) (o:=1) (v:= .int .i64 o.cd) (by simp)
  have fB1_w1:=KH_w1.o.free (b:=w.heap.size) (o:=1) (v:= .int .i64 o.cd) (by simp);have cB2_w1:=KH_w1.o.at (b:=w.heap.size) (o:=2) (v:= .int .i64 o.ow) (by simp)
  have fB2_w1:=KH_w1.o.free (b:=w.heap.size) (o:=2) (v:= .int .i64 o.ow) (by simp);have cB3_w1:=KH_w1.o.at (b:=w.heap.size) (o:=3) (v:= .int .i64 o.po) (by simp)
  have fB3_w1:=KH_w1.o.free (b:=w.heap.size) (o:=3) (v:= .int .i64 o.po) (by simp);have cB4_w1:=KH_w1.o.at (b:=w.heap.size) (o:=4) (v:= .int .i64 o.tg) (by simp)
  have fB4_w1:=KH_w1.o.free (b:=w.heap.size) (o:=4) (v:= .int .i64 o.tg) (by simp);have cB5_w1:=KH_w1.o.at (b:=w.heap.size) (o:=5) (v:= .int .i64 o.da) (by simp)
  have fB5_w1:=KH_w1.o.free (b:=w.heap.size) (o:=5) (v:= .int .i64 o.da) (by simp);have cB6_w1:=KH_w1.o.at (b:=w.heap.size) (o:=6) (v:= .int .i64 o.co) (by simp)
  have fB6_w1:=KH_w1.o.free (b:=w.heap.size) (o:=6) (v:= .int .i64 o.co) (by simp);have cB7_w1:=KH_w1.o.at (b:=w.heap.size) (o:=7) (v:= .int .i64 o.pp) (by simp)
  have fB7_w1:=KH_w1.o.free (b:=w.heap.size) (o:=7) (v:= .int .i64 o.pp) (by simp);have cB8_w1:=KH_w1.o.at (b:=w.heap.size) (o:=8) (v:= .int .i64 o.pt) (by simp)
  have fB8_w1:=KH_w1.o.free (b:=w.heap.size) (o:=8) (v:= .int .i64 o.pt) (by simp);have cB9_w1:=KH_w1.o.at (b:=w.heap.size) (o:=9) (v:= .bool o.ta) (by simp)
  have fB9_w1:=KH_w1.o.free (b:=w.heap.size) (o:=9) (v:= .bool o.ta) (by simp);have cB10_w1:=KH_w1.o.at (b:=w.heap.size) (o:=10) (v:= .bool o.si) (by simp)
  have fB10_w1:=KH_w1.o.free (b:=w.heap.size) (o:=10) (v:= .bool o.si) (by simp);have cB11_w1:=KH_w1.o.at (b:=w.heap.size) (o:=11) (v:= .bool false) (by simp)
  have fB11_w1:=KH_w1.o.free (b:=w.heap.size) (o:=11) (v:= .bool false) (by simp);go_wp2_with fail
  with_reducible refine(otoughc v cs {o with dm:=false} _ (hs.below (by go_grown)) hc HO.o t h2.out).mono ?_
  rintro e w2 ⟨rfl,hb_w2⟩;have K_w2:=(KH_w1.o.step (by omega) (by go_grown)).step (by omega) hb_w2;clear hb_w2;have KH_w2:=Hd K_w2;have hw_w2:=K_w2.below;have hz_w2:=K_w2.size;have lB_w2:w.heap.size<w2.heap.size:=by omega
  clear lB_w1 cB0_w1 fB0_w1 cB1_w1 fB1_w1 cB2_w1 fB2_w1 cB3_w1 fB3_w1 cB4_w1 fB4_w1 cB5_w1 fB5_w1 cB6_w1 fB6_w1 cB7_w1 fB7_w1 cB8_w1 fB8_w1 cB9_w1 fB9_w1 cB10_w1 fB10_w1 cB11_w1 fB11_w1;clear K_w2;have cB0_w2:=KH_w2.o.at (b:=w.heap.size) (o:=0) (v:= .int .i64 o.id) (by simp)
  have fB0_w2:=KH_w2.o.free (b:=w.heap.size) (o:=0) (v:= .int .i64 o.id) (by simp);have cB1_w2:=KH_w2.o.at (b:=w.heap.size) (o:=1) (v:= .int .i64 o.cd) (by simp)
  have fB1_w2:=KH_w2.o.free (b:=w.heap.size) (o:=1) (v:= .int .i64 o.cd) (by simp);have cB2_w2:=KH_w2.o.at (b:=w.heap.size) (o:=2) (v:= .int .i64 o.ow) (by simp)
  have fB2_w2:=KH_w2.o.free (b:=w.heap.size) (o:=2) (v:= .int .i64 o.ow) (by simp);have cB3_w2:=KH_w2.o.at (b:=w.heap.size) (o:=3) (v:= .int .i64 o.po) (by simp)
  have fB3_w2:=KH_w2.o.free (b:=w.heap.size) (o:=3) (v:= .int .i64 o.po) (by simp);have cB4_w2:=KH_w2.o.at (b:=w.heap.size) (o:=4) (v:= .int .i64 o.tg) (by simp)
  have fB4_w2:=KH_w2.o.free (b:=w.heap.size) (o:=4) (v:= .int .i64 o.tg) (by simp);have cB5_w2:=KH_w2.o.at (b:=w.heap.size) (o:=5) (v:= .int .i64 o.da) (by simp)
  have fB5_w2:=KH_w2.o.free (b:=w.heap.size) (o:=5) (v:= .int .i64 o.da) (by simp);have cB6_w2:=KH_w2.o.at (b:=w.heap.size) (o:=6) (v:= .int .i64 o.co) (by simp)
  have fB6_w2:=KH_w2.o.free (b:=w.heap.size) (o:=6) (v:= .int .i64 o.co) (by simp);have cB7_w2:=KH_w2.o.at (b:=w.heap.size) (o:=7) (v:= .int .i64 o.pp) (by simp)
  have fB7_w2:=KH_w2.o.free (b:=w.heap.size) (o:=7) (v:= .int .i64 o.pp) (by simp);have cB8_w2:=KH_w2.o.at (b:=w.heap.size) (o:=8) (v:= .int .i64 o.pt) (by simp)
  have fB8_w2:=KH_w2.o.free (b:=w.heap.size) (o:=8) (v:= .int .i64 o.pt) (by simp);have cB9_w2:=KH_w2.o.at (b:=w.heap.size) (o:=9) (v:= .bool o.ta) (by simp)
  have fB9_w2:=KH_w2.o.free (b:=w.heap.size) (o:=9) (v:= .bool o.ta) (by simp);have cB10_w2:=KH_w2.o.at (b:=w.heap.size) (o:=10) (v:= .bool o.si) (by simp)
  have fB10_w2:=KH_w2.o.free (b:=w.heap.size) (o:=10) (v:= .bool o.si) (by simp);have cB11_w2:=KH_w2.o.at (b:=w.heap.size) (o:=11) (v:= .bool false) (by simp)
  have fB11_w2:=KH_w2.o.free (b:=w.heap.size) (o:=11) (v:= .bool false) (by simp);go_wp2_with fail
  go_returns
  exact⟨ret_bool ef.out.symm,by go_grown⟩
 have ef:Hid (deB cs {o with dm:=false}=false):=Hd (by simp only[deB,hcr2,ht];simp[hda,ht0]);have q2:decide (t<=o.da)=false:=by simpa using hda
 clear hcr hcr2 ht ht0;go_enter Tryz.func70,Tryz.ntmps70;go_wp2_with fail
 with_reducible refine(ocreaturec v cs {o with dm:=false} _ (hs.below (by go_grown)) true h1.out).mono ?_
 rintro e w1 ⟨rfl,hb_w1⟩;have K_w1:Kept w.heap.size w (w.heap.size+1) [(w.heap.size,0,.int .i64 o.id),(w.heap.size,1,.int .i64 o.cd),(w.heap.size,2,.int .i64 o.ow),(w.heap.size,3,.int .i64 o.po),(w.heap.size,4,.int .i64 o.tg),(w.heap.size,5,.int .i64 o.da),(w.heap.size,6,.int .i64 o.co),(w.heap.size,7,.int .i64 o.pp),(w.heap.size,8,.int .i64 o.pt),(w.heap.size,9,.bool o.ta),(w.heap.size,10,.bool o.si),(w.heap.size,11,.bool false)] w1:=Kept.of hb_w1 (by go_grown) (by go_size) (by omega) (by simp[go_sem]<;>omega);clear hb_w1;have KH_w1:=Hd K_w1;have hw_w1:=K_w1.below;have hz_w1:=K_w1.size;have lB_w1:w.heap.size<w1.heap.size:=by omega
 clear K_w1;have cB0_w1:=KH_w1.o.at (b:=w.heap.size) (o:=0) (v:= .int .i64 o.id) (by simp)
 have fB0_w1:=KH_w1.o.free (b:=w.heap.size) (o:=0) (v:= .int .i64 o.id) (by simp);have cB1_w1:=KH_w1.o.at (b:=w.heap.size) (o:=1) (v:= .int .i64 o.cd) (by simp)
 have fB1_w1:=KH_w1.o.free (b:=w.heap.size) (o:=1) (v:= .int .i64 o.cd) (by simp);have cB2_w1:=KH_w1.o.at (b:=w.heap.size) (o:=2) (v:= .int .i64 o.ow) (by simp)
 have fB2_w1:=KH_w1.o.free (b:=w.heap.size) (o:=2) (v:= .int .i64 o.ow) (by simp);have cB3_w1:=KH_w1.o.at (b:=w.heap.size) (o:=3) (v:= .int .i64 o.po) (by simp)
 have fB3_w1:=KH_w1.o.free (b:=w.heap.size) (o:=3) (v:= .int .i64 o.po) (by simp);have cB4_w1:=KH_w1.o.at (b:=w.heap.size) (o:=4) (v:= .int .i64 o.tg) (by simp)
 have fB4_w1:=KH_w1.o.free (b:=w.heap.size) (o:=4) (v:= .int .i64 o.tg) (by simp);have cB5_w1:=KH_w1.o.at (b:=w.heap.size) (o:=5) (v:= .int .i64 o.da) (by simp)
 have fB5_w1:=KH_w1.o.free (b:=w.heap.size) (o:=5) (v:= .int .i64 o.da) (by simp);have cB6_w1:=KH_w1.o.at (b:=w.heap.size) (o:=6) (v:= .int .i64 o.co) (by simp)
 have fB6_w1:=KH_w1.o.free (b:=w.heap.size) (o:=6) (v:= .int .i64 o.co) (by simp);have cB7_w1:=KH_w1.o.at (b:=w.heap.size) (o:=7) (v:= .int .i64 o.pp) (by simp)
 have fB7_w1:=KH_w1.o.free (b:=w.heap.size) (o:=7) (v:= .int .i64 o.pp) (by simp);have cB8_w1:=KH_w1.o.at (b:=w.heap.size) (o:=8) (v:= .int .i64 o.pt) (by simp)
 have fB8_w1:=KH_w1.o.free (b:=w.heap.size) (o:=8) (v:= .int .i64 o.pt) (by simp);have cB9_w1:=KH_w1.o.at (b:=w.heap.size) (o:=9) (v:= .bool o.ta) (by simp)
 have fB9_w1:=KH_w1.o.free (b:=w.heap.size) (o:=9) (v:= .bool o.ta) (by simp);have cB10_w1:=KH_w1.o.at (b:=w.heap.size) (o:=10) (v:= .bool o.si) (by simp)
 have fB10_w1:=KH_w1.o.free (b:=w.heap.size) (o:=10) (v:= .bool o.si) (by simp);have cB11_w1:=KH_w1.o.at (b:=w.heap.size) (o:=11) (v:= .bool false) (by simp)
 have fB11_w1:=KH_w1.o.free (b:=w.heap.size) (o:=11) (v:= .bool false) (by simp);go_wp2_with fail
 with_reducible refine(otoughc v cs {o with dm:=false} _ (hs.below (by go_grown)) hc HO.o t h2.out).mono ?_
 rintro e w2 ⟨rfl,hb_w2⟩;have K_w2:=(KH_w1.o.step (by omega) (by go_grown)).step (by omega) hb_w2;clear hb_w2;have KH_w2:=Hd K_w2;have hw_w2:=K_w2.below;have hz_w2:=K_w2.size;have lB_w2:w.heap.size<w2.heap.size:=by omega
 clear lB_w1 cB0_w1 fB0_w1 cB1_w1 fB1_w1 cB2_w1 fB2_w1 cB3_w1 fB3_w1 cB4_w1 fB4_w1 cB5_w1 fB5_w1 cB6_w1 fB6_w1 cB7_w1 fB7_w1 cB8_w1 fB8_w1 cB9_w1 fB9_w1 cB10_w1 fB10_w1 cB11_w1 fB11_w1;clear K_w2;have cB0_w2:=KH_w2.o.at (b:=w.heap.size) (o:=0) (v:= .int .i64 o.id) (by simp)
 have fB0_w2:=KH_w2.o.free (b:=w.heap.size) (o:=0) (v:= .int .i64 o.id) (by simp);have cB1_w2:=KH_w2.o.at (b:=w.heap.size) (o:=1) (v:= .int .i64 o.cd) (by simp)
 have fB1_w2:=KH_w2.o.free (b:=w.heap.size) (o:=1) (v:= .int .i64 o.cd) (by simp);have cB2_w2:=KH_w2.o.at (b:=w.heap.size) (o:=2) (v:= .int .i64 o.ow) (by simp)
 have fB2_w2:=KH_w2.o.free (b:=w.heap.size) (o:=2) (v:= .int .i64 o.ow) (by simp);have cB3_w2:=KH_w2.o.at (b:=w.heap.size) (o:=3) (v:= .int .i64 o.po) (by simp)
 have fB3_w2:=KH_w2.o.free (b:=w.heap.size) (o:=3) (v:= .int .i64 o.po) (by simp);have cB4_w2:=KH_w2.o.at (b:=w.heap.size) (o:=4) (v:= .int .i64 o.tg) (by simp)
 have fB4_w2:=KH_w2.o.free (b:=w.heap.size) (o:=4) (v:= .int .i64 o.tg) (by simp);have cB5_w2:=KH_w2.o.at (b:=w.heap.size) (o:=5) (v:= .int .i64 o.da) (by simp)
 have fB5_w2:=KH_w2.o.free (b:=w.heap.size) (o:=5) (v:= .int .i64 o.da) (by simp);have cB6_w2:=KH_w2.o.at (b:=w.heap.size) (o:=6) (v:= .int .i64 o.co) (by simp)
 have fB6_w2:=KH_w2.o.free (b:=w.heap.size) (o:=6) (v:= .int .i64 o.co) (by simp);have cB7_w2:=KH_w2.o.at (b:=w.heap.size) (o:=7) (v:= .int .i64 o.pp) (by simp)
 have fB7_w2:=KH_w2.o.free (b:=w.heap.size) (o:=7) (v:= .int .i64 o.pp) (by simp);have cB8_w2:=KH_w2.o.at (b:=w.heap.size) (o:=8) (v:= .int .i64 o.pt) (by simp)
 have fB8_w2:=KH_w2.o.free (b:=w.heap.size) (o:=8) (v:= .int .i64 o.pt) (by simp);have cB9_w2:=KH_w2.o.at (b:=w.heap.size) (o:=9) (v:= .bool o.ta) (by simp)
 have fB9_w2:=KH_w2.o.free (b:=w.heap.size) (o:=9) (v:= .bool o.ta) (by simp);have cB10_w2:=KH_w2.o.at (b:=w.heap.size) (o:=10) (v:= .bool o.si) (by simp)
 have fB10_w2:=KH_w2.o.free (b:=w.heap.size) (o:=10) (v:= .bool o.si) (by simp);have cB11_w2:=KH_w2.o.at (b:=w.heap.size) (o:=11) (v:= .bool false) (by simp)
 have fB11_w2:=KH_w2.o.free (b:=w.heap.size) (o:=11) (v:= .bool false) (by simp);go_wp2_with fail
 go_returns
 exact⟨ret_bool ef.out.symm,by go_grown⟩
set_option maxRecDepth 100000 in
set_option maxHeartbeats 2000000 in
theorem odead_true(v:Value)(cs:List Cd)(o:Ob)(w:World)(hs:CRow w v cs)(hc:CI cs)(ho:o.I)(hcr:crB cs o=true):Calls Tryz.prog 70 #[v,.agg #[.int .i64 o.id,.int .i64 o.cd,.int .i64 o.ow,.int .i64 o.po,.int .i64 o.tg,.int .i64 o.da,.int .i64 o.co,.int .i64 o.pp,.int .i64 o.pt,.bool o.ta,.bool o.si,.bool true]] w fun e w' =>e= .returned (.bool (deB cs {o with dm:=true}))/\Below w.heap.size w w':=by
 obtain⟨t,ht⟩:∃t,toB cs {o with dm:=true}=t:=⟨_,rfl⟩
 have h2:=Hd ht;have h1:Hid (crB cs {o with dm:=true}=true):=Hd hcr;have HO:Hid ({o with dm:=true}:Ob).I:=Hd ⟨ho.id,ho.cd,ho.ow,ho.po,ho.tg,ho.da,ho.co,ho.pp,ho.pt⟩;have hcr2:=h1.out;have ef:Hid (deB cs {o with dm:=true}=true):=Hd (by simp only[deB,hcr2];simp);clear hcr hcr2 ht;go_enter Tryz.func70,Tryz.ntmps70;go_wp2_with fail
 with_reducible refine(ocreaturec v cs {o with dm:=true} _ (hs.below (by go_grown)) true h1.out).mono ?_
 rintro e w1 ⟨rfl,hb_w1⟩;have K_w1:Kept w.heap.size w (w.heap.size+1) [(w.heap.size,0,.int .i64 o.id),(w.heap.size,1,.int .i64 o.cd),(w.heap.size,2,.int .i64 o.ow),(w.heap.size,3,.int .i64 o.po),(w.heap.size,4,.int .i64 o.tg),(w.heap.size,5,.int .i64 o.da),(w.heap.size,6,.int .i64 o.co),(w.heap.size,7,.int .i64 o.pp),(w.heap.size,8,.int .i64 o.pt),(w.heap.size,9,.bool o.ta),(w.heap.size,10,.bool o.si),(w.heap.size,11,.bool true)] w1:=Kept.of hb_w1 (by go_grown) (by go_size) (by omega) (by simp[go_sem]<;>omega);clear hb_w1;have KH_w1:=Hd K_w1;have hw_w1:=K_w1.below;have hz_w1:=K_w1.size;have lB_w1:w.heap.size<w1.heap.size:=by omega
 clear K_w1;have cB0_w1:=KH_w1.o.at (b:=w.heap.size) (o:=0) (v:= .int .i64 o.id) (by simp)
 have fB0_w1:=KH_w1.o.free (b:=w.heap.size) (o:=0) (v:= .int .i64 o.id) (by simp);have cB1_w1:=KH_w1.o.at (b:=w.heap.size) (o:=1) (v:= .int .i64 o.cd) (by simp)
 have fB1_w1:=KH_w1.o.free (b:=w.heap.size) (o:=1) (v:= .int .i64 o.cd) (by simp);have cB2_w1:=KH_w1.o.at (b:=w.heap.size) (o:=2) (v:= .int .i64 o.ow) (by simp)
 have fB2_w1:=KH_w1.o.free (b:=w.heap.size) (o:=2) (v:= .int .i64 o.ow) (by simp);have cB3_w1:=KH_w1.o.at (b:=w.heap.size) (o:=3) (v:= .int .i64 o.po) (by simp)
 have fB3_w1:=KH_w1.o.free (b:=w.heap.size) (o:=3) (v:= .int .i64 o.po) (by simp);have cB4_w1:=KH_w1.o.at (b:=w.heap.size) (o:=4) (v:= .int .i64 o.tg) (by simp)
 have fB4_w1:=KH_w1.o.free (b:=w.heap.size) (o:=4) (v:= .int .i64 o.tg) (by simp);have cB5_w1:=KH_w1.o.at (b:=w.heap.size) (o:=5) (v:= .int .i64 o.da) (by simp)
 have fB5_w1:=KH_w1.o.free (b:=w.heap.size) (o:=5) (v:= .int .i64 o.da) (by simp);have cB6_w1:=KH_w1.o.at (b:=w.heap.size) (o:=6) (v:= .int .i64 o.co) (by simp)
 have fB6_w1:=KH_w1.o.free (b:=w.heap.size) (o:=6) (v:= .int .i64 o.co) (by simp);have cB7_w1:=KH_w1.o.at (b:=w.heap.size) (o:=7) (v:= .int .i64 o.pp) (by simp)
 have fB7_w1:=KH_w1.o.free (b:=w.heap.size) (o:=7) (v:= .int .i64 o.pp) (by simp);have cB8_w1:=KH_w1.o.at (b:=w.heap.size) (o:=8) (v:= .int .i64 o.pt) (by simp)
 have fB8_w1:=KH_w1.o.free (b:=w.heap.size) (o:=8) (v:= .int .i64 o.pt) (by simp);have cB9_w1:=KH_w1.o.at (b:=w.heap.size) (o:=9) (v:= .bool o.ta) (by simp)
 have fB9_w1:=KH_w1.o.free (b:=w.heap.size) (o:=9) (v:= .bool o.ta) (by simp);have cB10_w1:=KH_w1.o.at (b:=w.heap.size) (o:=10) (v:= .bool o.si) (by simp)
 have fB10_w1:=KH_w1.o.free (b:=w.heap.size) (o:=10) (v:= .bool o.si) (by simp);have cB11_w1:=KH_w1.o.at (b:=w.heap.size) (o:=11) (v:= .bool true) (by simp)
 have fB11_w1:=KH_w1.o.free (b:=w.heap.size) (o:=11) (v:= .bool true) (by simp);go_wp2_with fail
 with_reducible refine(otoughc v cs {o with dm:=true} _ (hs.below (by go_grown)) hc HO.o t h2.out).mono ?_
 rintro e w2 ⟨rfl,hb_w2⟩;have K_w2:=(KH_w1.o.step (by omega) (by go_grown)).step (by omega) hb_w2;clear hb_w2;have KH_w2:=Hd K_w2;have hw_w2:=K_w2.below;have hz_w2:=K_w2.size;have lB_w2:w.heap.size<w2.heap.size:=by omega
 clear lB_w1 cB0_w1 fB0_w1 cB1_w1 fB1_w1 cB2_w1 fB2_w1 cB3_w1 fB3_w1 cB4_w1 fB4_w1 cB5_w1 fB5_w1 cB6_w1 fB6_w1 cB7_w1 fB7_w1 cB8_w1 fB8_w1 cB9_w1 fB9_w1 cB10_w1 fB10_w1 cB11_w1 fB11_w1;clear K_w2;have cB0_w2:=KH_w2.o.at (b:=w.heap.size) (o:=0) (v:= .int .i64 o.id) (by simp)
 have fB0_w2:=KH_w2.o.free (b:=w.heap.size) (o:=0) (v:= .int .i64 o.id) (by simp);have cB1_w2:=KH_w2.o.at (b:=w.heap.size) (o:=1) (v:= .int .i64 o.cd) (by simp)
 have fB1_w2:=KH_w2.o.free (b:=w.heap.size) (o:=1) (v:= .int .i64 o.cd) (by simp);have cB2_w2:=KH_w2.o.at (b:=w.heap.size) (o:=2) (v:= .int .i64 o.ow) (by simp)
 have fB2_w2:=KH_w2.o.free (b:=w.heap.size) (o:=2) (v:= .int .i64 o.ow) (by simp);have cB3_w2:=KH_w2.o.at (b:=w.heap.size) (o:=3) (v:= .int .i64 o.po) (by simp)
 have fB3_w2:=KH_w2.o.free (b:=w.heap.size) (o:=3) (v:= .int .i64 o.po) (by simp);have cB4_w2:=KH_w2.o.at (b:=w.heap.size) (o:=4) (v:= .int .i64 o.tg) (by simp)
 have fB4_w2:=KH_w2.o.free (b:=w.heap.size) (o:=4) (v:= .int .i64 o.tg) (by simp);have cB5_w2:=KH_w2.o.at (b:=w.heap.size) (o:=5) (v:= .int .i64 o.da) (by simp)
 have fB5_w2:=KH_w2.o.free (b:=w.heap.size) (o:=5) (v:= .int .i64 o.da) (by simp);have cB6_w2:=KH_w2.o.at (b:=w.heap.size) (o:=6) (v:= .int .i64 o.co) (by simp)
 have fB6_w2:=KH_w2.o.free (b:=w.heap.size) (o:=6) (v:= .int .i64 o.co) (by simp);have cB7_w2:=KH_w2.o.at (b:=w.heap.size) (o:=7) (v:= .int .i64 o.pp) (by simp)
 have fB7_w2:=KH_w2.o.free (b:=w.heap.size) (o:=7) (v:= .int .i64 o.pp) (by simp);have cB8_w2:=KH_w2.o.at (b:=w.heap.size) (o:=8) (v:= .int .i64 o.pt) (by simp)
 have fB8_w2:=KH_w2.o.free (b:=w.heap.size) (o:=8) (v:= .int .i64 o.pt) (by simp);have cB9_w2:=KH_w2.o.at (b:=w.heap.size) (o:=9) (v:= .bool o.ta) (by simp)
 have fB9_w2:=KH_w2.o.free (b:=w.heap.size) (o:=9) (v:= .bool o.ta) (by simp);have cB10_w2:=KH_w2.o.at (b:=w.heap.size) (o:=10) (v:= .bool o.si) (by simp)
 have fB10_w2:=KH_w2.o.free (b:=w.heap.size) (o:=10) (v:= .bool o.si) (by simp);have cB11_w2:=KH_w2.o.at (b:=w.heap.size) (o:=11) (v:= .bool true) (by simp)
 have fB11_w2:=KH_w2.o.free (b:=w.heap.size) (o:=11) (v:= .bool true) (by simp);go_wp2_with fail
 go_returns
 exact⟨ret_bool ef.out.symm,by go_grown⟩
theorem odead(v:Value)(cs:List Cd)(o:Ob)(w:World)(hs:CRow w v cs)(hc:CI cs)(ho:o.I):Calls Tryz.prog 70 #[v,.agg #[.int .i64 o.id,.int .i64 o.cd,.int .i64 o.ow,.int .i64 o.po,.int .i64 o.tg,.int .i64 o.da,.int .i64 o.co,.int .i64 o.pp,.int .i64 o.pt,.bool o.ta,.bool o.si,.bool o.dm]] w fun e w' =>e= .returned (.bool (deB cs o))/\Below w.heap.size w w':=by
 cases hcr:crB cs o
 ·exact odead_no v cs o w hs hcr
 obtain⟨xid,xcd,xow,xpo,xtg,xda,xco,xpp,xpt,xta,xsi,xdm⟩:=o
 cases xdm
 ·exact odead_false v cs _ w hs hc ho hcr
 exact odead_true v cs _ w hs hc ho hcr
theorem odeadc(v:Value)(cs:List Cd)(o:Ob)(w:World)(hs:CRow w v cs)(hc:CI cs)(ho:o.I)(b:Bool)(h:deB cs o=b):Calls Tryz.prog 70 #[v,.agg #[.int .i64 o.id,.int .i64 o.cd,.int .i64 o.ow,.int .i64 o.po,.int .i64 o.tg,.int .i64 o.da,.int .i64 o.co,.int .i64 o.pp,.int .i64 o.pt,.bool o.ta,.bool o.si,.bool o.dm]] w fun e w' =>e= .returned (.bool b)/\Below w.heap.size w w':=by
 subst h;exact odead v cs o w hs hc ho
end Go.Proofs.YtpbepnpnpopmfaaGreat
