/- Which objects must die, by the reference. Who must die and what must go, by the reference. Whether a board is stable, and who has lost, by the reference. -/
import Derived.Test.YtpbepnpnpopmfaaGreatTTk
import Derived.Test.YtpbepnpnpopmfaaGreatUDd
import Derived.Test.YtpbepnpnpopmfaaGreatTCe
import Derived.Deep.DeepCutAuto
import Derived.LoopTactic
import Derived.Deep.MidRow
import Derived.Test.YtpbepnpnpopmfaaGreatUDg
import Derived.Test.YtpbepnpnpopmfaaGreatBRf
import Derived.Test.YtpbepnpnpopmfaaGreatUSt
import Derived.Test.YtpbepnpnpopmfaaGreatBSa
import Derived.Test.YtpbepnpnpopmfaaGreatBRv
open Go.RowKit Go.Proofs.YtpbepnpnpopmfaaGreat
set_option maxRecDepth 100000
set_option maxHeartbeats 4000000
namespace Go.Proofs.YtpbepnpnpopmfaaGreat
open Plain
set_option linter.unusedVariables false
set_option linter.unusedSimpArgs false

theorem rg96_4{P:Program}{B n:Nat}{w0:World}{L:List (Nat×Nat×Value)}{E F:World->Prop}{id:Nat}{Q:Exit->Act->World->Prop}{a:Act}{w:World}{A:Array Oper}{o0 o1 o2 o3 o4 o5 o6 o7:Oper}(hm:P.follows .mixedOrders=true)(hA:A=[o0,o1,o2,o3,o4,o5,o6,o7].toArray)(hB:regOk A [2,5] [0,1,4,7] (.fs [0,1,4] (.rs [2,5] (.alt 3 (.altc 6 (.fs [7] .done) .stop) .stop)))=true)(c:RC B w0 n L E F w)
  (h:∀wk,Kept B w0 n L wk->E wk->F wk->wpQuiet P A (fun _=>True) (fun a0=>wpQuiet P A (fun w' =>∃s:KX B w0 n L E,w' =s.val) (fun a1=>((∀K2:Act->World->Prop,(∀a2 w2,((∀K3:Act->World->Prop,(∀a3 w3,wpQuiet P A (fun _=>True) (fun a4=>Q .normal a4 w3) [o7] a3->K3 a3 w3)->wpList P A (fun e a3 w3=>e= .normal/\K3 a3 w3) [o6] a2 w2)/\True)->K2 a2 w2)->wpList P A (fun e a2 w2=>e= .normal/\(∃s:KX B w0 n L E,w2=s.val)/\K2 a2 w2) [o3] a1 wk)/\True)) [o2,o5] a0) [o0,o1,o4] a):(Code.region id A true).wp P Q a w:=by
 subst hA;exact wp_reg _ _ _ hm hB c (fun wk k e f=>have g:=h wk k e f;Scr.of_fs _ _ rfl g fun _ g=>Scr.of_rs _ _ rfl g fun _ g=>(Scr.of_alt rfl (g.1 _ fun _ _ g=>g) (fun _ _ g=>(Scr.of_altc rfl (g.1 _ fun _ _ g=>g) (fun _ _ g=>Scr.of_fs _ _ rfl g fun _ g=>g) trivial)) trivial))
theorem rcardd(v:Value)(cs:List Cd)(o:Ob)(c:Cd)(n1 n2:Nat)(w:World)(hs:CRow w v cs)(hc:cardOf cs o.cd=c)(h1:c.el=n1)(h2:c.tl=n2):Calls Tryz.prog 115 #[v,.agg #[.int .i64 o.id,.int .i64 o.cd,.int .i64 o.ow,.int .i64 o.po,.int .i64 o.tg,.int .i64 o.da,.int .i64 o.co,.int .i64 o.pp,.int .i64 o.pt,.bool o.ta,.bool o.si,.bool o.dm]] w fun e w' =>e= .returned (.agg #[.string c.nm,.int .i64 c.kd,.int .i64 c.c0,.int .i64 c.c1,.int .i64 c.c2,.int .i64 c.c3,.int .i64 c.c4,.int .i64 c.mc,.int .i64 c.pw,.int .i64 c.tg,.int .i64 c.kw,.slice c.ea n1 c.ec,.slice c.ta n2 c.tc,.int .i64 c.ra])/\Below w.heap.size w w':=by
 subst hc h1 h2;exact rcard v cs o w hs
theorem rtough(v:Value)(cs:List Cd)(o:Ob)(w:World)(hs:CRow w v cs):Calls Tryz.prog 96 #[v,.agg #[.int .i64 o.id,.int .i64 o.cd,.int .i64 o.ow,.int .i64 o.po,.int .i64 o.tg,.int .i64 o.da,.int .i64 o.co,.int .i64 o.pp,.int .i64 o.pt,.bool o.ta,.bool o.si,.bool o.dm]] w fun e w' =>e= .returned (.int .i64 (toB cs o))/\Below w.heap.size w w':=by
 obtain⟨bt,hbt⟩:∃b,baT cs o=b:=⟨_,rfl⟩
 have HE:Hid (toB cs o=ad (ad bt o.co) o.pt):=Hd (by unfold toB;rw[hbt]);have HBT:=Hd hbt;clear hbt
 obtain⟨c,hc⟩:∃c,cardOf cs o.cd=c:=⟨_,rfl⟩
 obtain⟨n1,h1⟩:∃n,c.el=n:=⟨_,rfl⟩
 obtain⟨n2,h2⟩:∃n,c.tl=n:=⟨_,rfl⟩
 have HS:=Hd hs;have HC:=Hd hc;have H1:=Hd h1;have H2:=Hd h2;clear hs hc h1 h2;go_enter Tryz.func96,Tryz.ntmps96
 go_upto_region 1 with fail
 obtain⟨wz,hwz⟩:∃W,W=w.alloc (.cells #[.int .i64 o.id,.int .i64 o.cd,.int .i64 o.ow,.int .i64 o.po,.int .i64 o.tg,.int .i64 o.da,.int .i64 o.co,.int .i64 o.pp,.int .i64 o.pt,.bool o.ta,.bool o.si,.bool o.dm] 47):=⟨_,rfl⟩
 change Code.wp Tryz.prog _ _ _ (w.alloc (.cells #[.int .i64 o.id,.int .i64 o.cd,.int .i64 o.ow,.int .i64 o.po,.int .i64 o.tg,.int .i64 o.da,.int .i64 o.co,.int .i64 o.pp,.int .i64 o.pt,.bool o.ta,.bool o.si,.bool o.dm] 47));rw[<-hwz];have b1:Below w.heap.size w wz:=by rw[hwz];exact(Below.refl _ _).alloc (Nat.le_refl _) _
 have hO:Ro wz w.heap.size #[.int .i64 o.id,.int .i64 o.cd,.int .i64 o.ow,.int .i64 o.po,.int .i64 o.tg,.int .i64 o.da,.int .i64 o.co,.int .i64 o.pp,.int .i64 o.pt,.bool o.ta,.bool o.si,.bool o.dm] 47:=by rw[hwz];exact Ro.new _ _ _
 have HB:=Hd b1;have HO:=Hd hO;have d0:wz.cell? ⟨w.heap.size,0,none⟩=some (.int .i64 o.id):=hO.cell 0;have d1:wz.cell? ⟨w.heap.size,1,none⟩=some (.int .i64 o.cd):=hO.cell 1;have d2:wz.cell? ⟨w.heap.size,2,none⟩=some (.int .i64 o.ow):=hO.cell 2;have d3:wz.cell? ⟨w.heap.size,3,none⟩=some (.int .i64 o.po):=hO.cell 3;have d4:wz.cell? ⟨w.heap.size,4,none⟩=some (.int .i64 o.tg):=hO.cell 4;have d5:wz.cell? ⟨w.heap.size,5,none⟩=some (.int .i64 o.da):=hO.cell 5;have d6:wz.cell? ⟨w.heap.size,6,none⟩=some (.int .i64 o.co):=hO.cell 6;have d7:wz.cell? ⟨w.heap.size,7,none⟩=some (.int .i64 o.pp):=hO.cell 7;have d8:wz.cell? ⟨w.heap.size,8,none⟩=some (.int .i64 o.pt):=hO.cell 8;have d9:wz.cell? ⟨w.heap.size,9,none⟩=some (.bool o.ta):=hO.cell 9;have d10:wz.cell? ⟨w.heap.size,10,none⟩=some (.bool o.si):=hO.cell 10;have d11:wz.cell? ⟨w.heap.size,11,none⟩=some (.bool o.dm):=hO.cell 11;clear hwz b1 hO;go_wp2_with fail
 with_reducible refine(rcardd v cs o c n1 n2 _ (HS.o.below HB.o) HC.o H1.o H2.o).mono ?_
 rintro e wy ⟨rfl,hb⟩;replace HB:=Hd (below_via HB.o hb);replace HO:=Hd (HO.o.below hb);clear hb d0 d1 d2 d3 d4 d5 d6 d7 d8 d9 d10 d11;have hfl:∀w,(Instr.field 64 (.agg #[.string c.nm,.int .i64 c.kd,.int .i64 c.c0,.int .i64 c.c1,.int .i64 c.c2,.int .i64 c.c3,.int .i64 c.c4,.int .i64 c.mc,.int .i64 c.pw,.int .i64 c.tg,.int .i64 c.kw,.slice c.ea n1 c.ec,.slice c.ta n2 c.tc,.int .i64 c.ra]) 5).run Tryz.prog w= .ok (.int .i64 c.tg) w:=fun _=>by kernel_rfl
 have d1:wy.cell? ⟨w.heap.size,1,none⟩=some (.int .i64 o.cd):=HO.o.cell 1;have d4:wy.cell? ⟨w.heap.size,4,none⟩=some (.int .i64 o.tg):=HO.o.cell 4;have d6:wy.cell? ⟨w.heap.size,6,none⟩=some (.int .i64 o.co):=HO.o.cell 6;have d8:wy.cell? ⟨w.heap.size,8,none⟩=some (.int .i64 o.pt):=HO.o.cell 8;have hl:w.heap.size<wy.heap.size:=HO.o.lt
 obtain⟨r,hr⟩:∃r,(o.cd== -1)=r:=⟨_,rfl⟩
 have HR0:Hid (false=r->c.tg=bt):=Hd (fun h=>by
  rw[<-HBT.o,<-HC.o];unfold baT;rw[if_neg (by rw[<-h] at hr;simpa using hr)])
 have HR1:Hid (true=r->o.tg=bt):=Hd (fun h=>by
  rw[<-HBT.o];unfold baT;rw[if_pos (by rw[<-h] at hr;simpa using hr)])
 cases r
 ·have HR:=Hd (HR0.o rfl)
  clear HR0 HR1
  go_upto_region 4 with fail
  clear hfl;refine rg96_4 (w0:=wy) (B:=wy.heap.size) (n:=wy.heap.size) (L:=[]) (by kernel_rfl) rfl (by kernel_rfl) (.t ⟨by go_grown,by go_size,(by simp[go_sem]<;>omega)⟩) (fun w91 K_w91 E_w91 F_w91=> ?_);have _ne:Nonempty (KX (wy.heap.size) wy (wy.heap.size) [] (fun _=>True)):=⟨⟨_,K_w91,E_w91⟩⟩
  repeat (go_big_quiet_step (fail))
  refine wpQuiet_nil ?_;have ra:=rck _ne d6 hl;have rb:=rck _ne d8 hl
  repeat (go_big_quiet_step (fail))
  refine wpQuiet_nil ?_;have KH_w91:=Hd K_w91;have hw_w91:=K_w91.below;have hz_w91:=K_w91.size;clear K_w91;clear E_w91 F_w91
  refine⟨fun K hK0=> ?_,trivial⟩
  have hK:=Hd hK0;clear hK0;go_wp2_with fail
  with_reducible refine(radd c.tg o.co _).mono ?_
  rintro e vq ⟨rfl,rfl⟩;go_wp2_with fail
  first|refine⟨rfl,?u,hK.o _ _ ?_⟩|refine⟨?u,hK.o _ _ ?_⟩
  case u=>exact⟨⟨_,KH_w91.o,trivial⟩,rfl⟩
  clear hK K
  refine⟨fun K hK0=> ?_,trivial⟩
  have hK:=Hd hK0;clear hK0;go_wp2_with fail
  with_reducible refine(radd (ad c.tg o.co) o.pt _).mono ?_
  rintro e vq ⟨rfl,rfl⟩;go_wp2_with fail
  first|refine⟨rfl,hK.o _ _ ?_⟩|refine hK.o _ _ ?_
  clear hK K
  repeat (go_big_quiet_step (fail))
  refine wpQuiet_nil ?_;clear ra rb;clear _ne;have HF:=Hd (below_via HB.o KH_w91.o.below);clear d6 d8 hl d1 d4;go_wp2_with fail
  go_returns
  exact⟨by rw[HE.o,<-HR.o];rfl,HF.o⟩
 have HR:=Hd (HR1.o rfl);clear HR0 HR1
 go_upto_region 4 with fail
 clear hfl;refine rg96_4 (w0:=wy) (B:=wy.heap.size) (n:=wy.heap.size) (L:=[]) (by kernel_rfl) rfl (by kernel_rfl) (.t ⟨by go_grown,by go_size,(by simp[go_sem]<;>omega)⟩) (fun w91 K_w91 E_w91 F_w91=> ?_);have _ne:Nonempty (KX (wy.heap.size) wy (wy.heap.size) [] (fun _=>True)):=⟨⟨_,K_w91,E_w91⟩⟩
 repeat (go_big_quiet_step (fail))
 refine wpQuiet_nil ?_;have ra:=rck _ne d6 hl;have rb:=rck _ne d8 hl
 repeat (go_big_quiet_step (fail))
 refine wpQuiet_nil ?_;have KH_w91:=Hd K_w91;have hw_w91:=K_w91.below;have hz_w91:=K_w91.size;clear K_w91;clear E_w91 F_w91
 refine⟨fun K hK0=> ?_,trivial⟩
 have hK:=Hd hK0;clear hK0;go_wp2_with fail
 with_reducible refine(radd o.tg o.co _).mono ?_
 rintro e vq ⟨rfl,rfl⟩;go_wp2_with fail
 first|refine⟨rfl,?u,hK.o _ _ ?_⟩|refine⟨?u,hK.o _ _ ?_⟩
 case u=>exact⟨⟨_,KH_w91.o,trivial⟩,rfl⟩
 clear hK K
 refine⟨fun K hK0=> ?_,trivial⟩
 have hK:=Hd hK0;clear hK0;go_wp2_with fail
 with_reducible refine(radd (ad o.tg o.co) o.pt _).mono ?_
 rintro e vq ⟨rfl,rfl⟩;go_wp2_with fail
 first|refine⟨rfl,hK.o _ _ ?_⟩|refine hK.o _ _ ?_
 clear hK K
 repeat (go_big_quiet_step (fail))
 refine wpQuiet_nil ?_;clear ra rb;clear _ne;have HF:=Hd (below_via HB.o KH_w91.o.below);clear d6 d8 hl d1 d4;go_wp2_with fail
 go_returns
 exact⟨by rw[HE.o,<-HR.o];rfl,HF.o⟩
theorem rcreature(v:Value)(cs:List Cd)(o:Ob)(w:World)(hs:CRow w v cs):Calls Tryz.prog 97 #[v,.agg #[.int .i64 o.id,.int .i64 o.cd,.int .i64 o.ow,.int .i64 o.po,.int .i64 o.tg,.int .i64 o.da,.int .i64 o.co,.int .i64 o.pp,.int .i64 o.pt,.bool o.ta,.bool o.si,.bool o.dm]] w fun e w' =>e= .returned (.bool (crB cs o))/\Below w.heap.size w w':=by
 obtain⟨c,hc⟩:∃c,cardOf cs o.cd=c:=⟨_,rfl⟩
 obtain⟨n1,h1⟩:∃n,c.el=n:=⟨_,rfl⟩
 obtain⟨n2,h2⟩:∃n,c.tl=n:=⟨_,rfl⟩
 have HS:=Hd hs;have HC:=Hd hc;have H1:=Hd h1;have H2:=Hd h2;clear hs hc h1 h2;go_enter Tryz.func97,Tryz.ntmps97
 go_upto_region 1 with fail
 obtain⟨wz,hwz⟩:∃W,W=w.alloc (.cells #[.int .i64 o.id,.int .i64 o.cd,.int .i64 o.ow,.int .i64 o.po,.int .i64 o.tg,.int .i64 o.da,.int .i64 o.co,.int .i64 o.pp,.int .i64 o.pt,.bool o.ta,.bool o.si,.bool o.dm] 47):=⟨_,rfl⟩
 change Code.wp Tryz.prog _ _ _ (w.alloc (.cells #[.int .i64 o.id,.int .i64 o.cd,.int .i64 o.ow,.int .i64 o.po,.int .i64 o.tg,.int .i64 o.da,.int .i64 o.co,.int .i64 o.pp,.int .i64 o.pt,.bool o.ta,.bool o.si,.bool o.dm] 47));rw[<-hwz];have b1:Below w.heap.size w wz:=by rw[hwz];exact(Below.refl _ _).alloc (Nat.le_refl _) _
 have hO:Ro wz w.heap.size #[.int .i64 o.id,.int .i64 o.cd,.int .i64 o.ow,.int .i64 o.po,.int .i64 o.tg,.int .i64 o.da,.int .i64 o.co,.int .i64 o.pp,.int .i64 o.pt,.bool o.ta,.bool o.si,.bool o.dm] 47:=by rw[hwz];exact Ro.new _ _ _
 have HB:=Hd b1;have HO:=Hd hO;have d0:wz.cell? ⟨w.heap.size,0,none⟩=some (.int .i64 o.id):=hO.cell 0;have d1:wz.cell? ⟨w.heap.size,1,none⟩=some (.int .i64 o.cd):=hO.cell 1;have d2:wz.cell? ⟨w.heap.size,2,none⟩=some (.int .i64 o.ow):=hO.cell 2;have d3:wz.cell? ⟨w.heap.size,3,none⟩=some (.int .i64 o.po):=hO.cell 3;have d4:wz.cell? ⟨w.heap.size,4,none⟩=some (.int .i64 o.tg):=hO.cell 4;have d5:wz.cell? ⟨w.heap.size,5,none⟩=some (.int .i64 o.da):=hO.cell 5;have d6:wz.cell? ⟨w.heap.size,6,none⟩=some (.int .i64 o.co):=hO.cell 6;have d7:wz.cell? ⟨w.heap.size,7,none⟩=some (.int .i64 o.pp):=hO.cell 7;have d8:wz.cell? ⟨w.heap.size,8,none⟩=some (.int .i64 o.pt):=hO.cell 8;have d9:wz.cell? ⟨w.heap.size,9,none⟩=some (.bool o.ta):=hO.cell 9;have d10:wz.cell? ⟨w.heap.size,10,none⟩=some (.bool o.si):=hO.cell 10;have d11:wz.cell? ⟨w.heap.size,11,none⟩=some (.bool o.dm):=hO.cell 11;clear hwz b1 hO
 by_cases h1:o.cd= -1
 ·have q:(o.cd== -1)=true:=by simpa using h1
  have HE:Hid (crB cs o=true):=Hd (by unfold crB;simp[h1]);clear h1;go_wp2_with fail
  go_returns
  exact⟨by rw[HE.o];rfl,HB.o⟩
 have q:(o.cd== -1)=false:=by simpa using h1
 have HE:Hid (crB cs o=(c.kd==2)):=Hd (by unfold crB;rw[HC.o];simp[h1]);have hfl:∀w,(Instr.field 64 (.agg #[.string c.nm,.int .i64 c.kd,.int .i64 c.c0,.int .i64 c.c1,.int .i64 c.c2,.int .i64 c.c3,.int .i64 c.c4,.int .i64 c.mc,.int .i64 c.pw,.int .i64 c.tg,.int .i64 c.kw,.slice c.ea n1 c.ec,.slice c.ta n2 c.tc,.int .i64 c.ra]) 1).run Tryz.prog w= .ok (.int .i64 c.kd) w:=fun _=>by kernel_rfl
 clear h1;go_wp2_with fail
 with_reducible refine(rcardd v cs o c n1 n2 _ (HS.o.below HB.o) HC.o H1.o H2.o).mono ?_
 rintro e wy ⟨rfl,hb⟩;replace HB:=Hd (below_via HB.o hb);clear hb d0 d1 d2 d3 d4 d5 d6 d7 d8 d9 d10 d11;go_wp2_with fail
 go_returns
 exact⟨by rw[HE.o];rfl,HB.o⟩
theorem rtoughv(v:Value)(cs:List Cd)(x:Ob)(w:World)(hs:CRow w v cs):Calls Tryz.prog 96 #[v,.agg (oc x).toArray] w fun e w' =>e= .returned (.int .i64 (toB cs x))/\Below w.heap.size w w':=rtough v cs x w hs
theorem rcreaturev(v:Value)(cs:List Cd)(x:Ob)(w:World)(hs:CRow w v cs):Calls Tryz.prog 97 #[v,.agg (oc x).toArray] w fun e w' =>e= .returned (.bool (crB cs x))/\Below w.heap.size w w':=rcreature v cs x w hs
theorem rdead(v:Value)(cs:List Cd)(x:Ob)(w:World)(hs:CRow w v cs):Calls Tryz.prog 74 #[v,.agg (oc x).toArray] w fun e w' =>e= .returned (.bool (deB cs x))/\Below w.heap.size w w':=by
 have HS:=Hd hs
 obtain⟨t,ht⟩:∃t,toB cs x=t:=⟨_,rfl⟩
 obtain⟨r1,h1⟩:∃r,crB cs x=r:=⟨_,rfl⟩
 obtain⟨r2,h2⟩:∃r,x.dm=r:=⟨_,rfl⟩
 obtain⟨r3,h3⟩:∃r,(t==0)=r:=⟨_,rfl⟩
 have HT:=Hd ht;have HR1:=Hd h1
 have HE:Hid (deB cs x=(r1&&(r2||r3||decide (x.da>=t)))):=Hd (by
  unfold deB;rw[h1,h2,ht,<-h3];have e:(t==0)=decide (t=0):=by by_cases h:t=0<;>simp[h]
  rw[e])
 have HR2:=Hd h2;clear hs ht h1 h2;go_enter Tryz.func74,Tryz.ntmps74
 go_upto_region 1 with fail
 change Code.wp Tryz.prog _ _ _ (w.alloc (.cells (oc x).toArray 47))
 obtain⟨wz,hwz⟩:∃W,W=w.alloc (.cells (oc x).toArray 47):=⟨_,rfl⟩
 rw[<-hwz];have HB:Hid (Below w.heap.size w wz):=Hd (by rw[hwz];exact(Below.refl _ _).alloc (Nat.le_refl _) _);have HO:Hid (Ro wz w.heap.size (oc x).toArray 47):=Hd (by rw[hwz];exact Ro.new _ _ _);clear hwz;go_wp2_with (refine wpList_load_o x _ rfl rfl HO.o (by kernel_rfl) ?_)
 with_reducible refine(rtoughv v cs x _ (HS.o.below HB.o)).mono ?_
 rintro e w1 ⟨rfl,hb⟩;replace HB:=Hd (below_via HB.o hb);replace HO:=Hd (Ro.below HO.o hb);rw[HT.o];clear hb;go_wp2_with (refine wpList_load_o x _ rfl rfl HO.o (by kernel_rfl) ?_)
 with_reducible refine(rcreaturev v cs x _ (HS.o.below HB.o)).mono ?_
 rintro e w2 ⟨rfl,hb⟩;replace HB:=Hd (below_via HB.o hb);replace HO:=Hd (Ro.below HO.o hb);rw[HR1.o];have d11:w2.cell? ⟨w.heap.size,11,none⟩=some (.bool r2):=by rw[Ro.cell HO.o 11,<-HR2.o];rfl
 have d5:w2.cell? ⟨w.heap.size,5,none⟩=some (.int .i64 x.da):=Ro.cell HO.o 5;clear hb HR1 HT
 cases r1
 ·go_wp2_with fail
  go_returns
  exact⟨by rw[HE.o];rfl,HB.o⟩
 cases r2
 ·cases r3
  ·go_wp2_with fail
   go_returns
   exact⟨by rw[HE.o];rfl,HB.o⟩
  go_wp2_with fail
  go_returns
  exact⟨by rw[HE.o];rfl,HB.o⟩
 go_wp2_with fail
 go_returns
 exact⟨by rw[HE.o];rfl,HB.o⟩
end Go.Proofs.YtpbepnpnpopmfaaGreat
namespace Go.Proofs.YtpbepnpnpopmfaaGreat
open Plain
set_option linter.unusedVariables false
set_option linter.unusedSimpArgs false

theorem rg73_1{P:Program}{B n:Nat}{w0:World}{L:List (Nat×Nat×Value)}{E F:World->Prop}{id:Nat}{Q:Exit->Act->World->Prop}{a:Act}{w:World}{A:Array Oper}{o0 o1 o2 o3 o4 o5 o6 o7 o8 o9 o10:Oper}(hm:P.follows .mixedOrders=true)(hA:A=[o0,o1,o2,o3,o4,o5,o6,o7,o8,o9,o10].toArray)(hB:regOk A [1,5,7] [0,2,3,4,6,9,10] (.fs [0,2,6] (.rs [1] (.fs [3,4] (.rs [5,7] (.altc 8 (.fs [9,10] .done) .stop)))))=true)(c:RC B w0 n L E F w)
  (h:∀wk,Kept B w0 n L wk->E wk->F wk->wpQuiet P A (fun _=>True) (fun a0=>wpQuiet P A (fun w' =>∃s:KX B w0 n L E,w' =s.val) (fun a1=>wpQuiet P A (fun _=>True) (fun a2=>wpQuiet P A (fun w' =>∃s:KX B w0 n L E,w' =s.val) (fun a3=>((∀K4:Act->World->Prop,(∀a4 w4,wpQuiet P A (fun _=>True) (fun a5=>Q .normal a5 w4) [o9,o10] a4->K4 a4 w4)->wpList P A (fun e a4 w4=>e= .normal/\K4 a4 w4) [o8] a3 wk)/\True)) [o5,o7] a2) [o3,o4] a1) [o1] a0) [o0,o2,o6] a):(Code.region id A true).wp P Q a w:=by
 subst hA;exact wp_reg _ _ _ hm hB c (fun wk k e f=>have g:=h wk k e f;Scr.of_fs _ _ rfl g fun _ g=>Scr.of_rs _ _ rfl g fun _ g=>Scr.of_fs _ _ rfl g fun _ g=>Scr.of_rs _ _ rfl g fun _ g=>(Scr.of_altc rfl (g.1 _ fun _ _ g=>g) (fun _ _ g=>Scr.of_fs _ _ rfl g fun _ g=>g) trivial))
theorem rfield(s:Bs)(B:Bd)(x:Ob)(p:Nat)(w:World)(h:BdR w s B)(how:x.ow=(p:Nat))(hp:p<2)(hnd:(B.seat p).fld.Nodup):Calls Tryz.prog 73 #[bv s B,.agg (oc x).toArray] w fun e w' =>e= .returned (.bool (onF B x))/\Below w.heap.size w w':=by
 have HR:=Hd h;have HOWN:=Hd how;have HND:=Hd hnd;clear h hnd;go_enter Tryz.func73,Tryz.ntmps73
 go_upto_region 1 with fail
 change Code.wp Tryz.prog _ _ _ ((w.alloc (.cells (bcells s B) 34)).alloc (.cells (oc x).toArray 47))
 obtain⟨wz,hwz⟩:∃W,W=((w.alloc (.cells (bcells s B) 34)).alloc (.cells (oc x).toArray 47)):=⟨_,rfl⟩
 rw[<-hwz];have b0:Below w.heap.size w (w.alloc (.cells (bcells s B) 34)):=by exact(Below.refl _ _).alloc (Nat.le_refl _) _
 have b1:Below (w.alloc (.cells (bcells s B) 34)).heap.size (w.alloc (.cells (bcells s B) 34)) wz:=by rw[hwz];exact(Below.refl _ _).alloc (Nat.le_refl _) _
 have HB:Hid (Below w.heap.size w wz):=Hd (below_via b0 b1);have HXb:Hid (Bx wz (w.heap.size) s B):=Hd ((Ro.new w (bcells s B) 34).below b1:Ro _ _ _ _);have HXo:Hid (Ro wz (w.heap.size+1) (oc x).toArray 47):=Hd (by rw[show w.heap.size+1=(w.alloc (.cells (bcells s B) 34)).heap.size by simp];exact(by rw[hwz];exact(Ro.new (w.alloc (.cells (bcells s B) 34)) (oc x).toArray 47)));have HC1:Hid (w.heap.size+2<=wz.heap.size):=Hd (by rw[hwz];simp);clear hwz b0 b1
 obtain⟨_,fa,fcp,hfv,_⟩:=((HR.o.zone p 2).below HB.o).form
 have c7:wz.cell? ⟨w.heap.size,1+p*14+7,none⟩=some (.slice fa (B.seat p).fld.length fcp):=by
  rw[show 1+p*14+7=1+p*14+5+2 by omega]
  exact(HXb.o.zone (p:=p) (z:=2) hp (by omega)).trans (congrArg some hfv)
 have HF:Hid (Rw ic 1 wz (.slice fa (B.seat p).fld.length fcp) (B.seat p).fld):=Hd (by
  have h1:=(HR.o.zone p 2).below HB.o;rw[hfv] at h1
  exact h1)
 have z0:wz.cell? ⟨w.heap.size+1,0,none⟩=some (.int .i64 x.id):=HXo.o.cell 0
 have z2:wz.cell? ⟨w.heap.size+1,2,none⟩=some (.int .i64 (p:Nat)):=by
  have h1:=HXo.o.cell 2;rw[h1,<-HOWN.o]
  rfl
 have hBl:w.heap.size<wz.heap.size:=HXb.o.lt;have hOl:w.heap.size+1<wz.heap.size:=HXo.o.lt;have i1:(0:Int)<=(p:Int):=by omega
 have i2:(p:Int)<2:=by omega
 obtain⟨n,hn⟩:∃n,(B.seat p).fld.count x.id=n:=⟨_,rfl⟩
 have HN:=Hd hn
 have HE:Hid (onF B x=((n:Int)==1)):=Hd (by
  have h1:onF B x=decide (x.id∈(B.seat p).fld):=by unfold onF;rw[HOWN.o];rfl
  rw[h1,<-hn]
  by_cases hm:x.id∈(B.seat p).fld
  ·have h2:(B.seat p).fld.count x.id=1:=Nat.le_antisymm (List.nodup_iff_count.1 HND.o x.id) (List.count_pos_iff.2 hm)
   rw[h2,decide_eq_true hm]
   rfl
  rw[List.count_eq_zero.2 hm,decide_eq_false hm]
  rfl)
 clear hfv hn how
 go_upto_region 1 with fail
 refine rg73_1 (w0:=wz) (B:=wz.heap.size) (n:=wz.heap.size) (L:=[]) (by kernel_rfl) rfl (by kernel_rfl) (.t ⟨by go_grown,by go_size,(by simp[go_sem]<;>omega)⟩) (fun w91 K_w91 E_w91 F_w91=> ?_);have _ne:Nonempty (KX (wz.heap.size) wz (wz.heap.size) [] (fun _=>True)):=⟨⟨_,K_w91,E_w91⟩⟩
 repeat (go_big_quiet_step (fail))
 refine wpQuiet_nil ?_;have ra:=rck _ne z0 hOl;have rb:=rck _ne z2 hOl;have rc:=rck _ne c7 hBl
 repeat (go_big_quiet_step (fail))
 refine wpQuiet_nil ?_
 repeat (go_big_quiet_step (fail))
 refine wpQuiet_nil ?_
 repeat (go_big_quiet_step (fail))
 refine wpQuiet_nil ?_;have KH_w91:=Hd K_w91;have hw_w91:=K_w91.below;have hz_w91:=K_w91.size;clear K_w91;clear E_w91 F_w91
 refine⟨fun K hK0=> ?_,trivial⟩
 have hK:=Hd hK0;clear hK0;go_wp2_with fail
 with_reducible refine(countI _ (B.seat p).fld x.id _ (HF.o.below KH_w91.o.below)).mono ?_
 rintro e vq ⟨rfl,rfl⟩;rw[HN.o];go_wp2_with fail
 first|refine⟨rfl,hK.o _ _ ?_⟩|refine hK.o _ _ ?_
 clear hK K
 repeat (go_big_quiet_step (fail))
 refine wpQuiet_nil ?_;clear ra rb rc;clear _ne;have HFF:=Hd (below_via HB.o KH_w91.o.below);go_wp2_with fail
 go_returns
 exact⟨by rw[HE.o];rfl,HFF.o⟩
theorem Plain.VB.fldN{B:Bd}(h:VB B){p:Nat}(hp:p<2):(B.seat p).fld.Nodup:=by
 have h1:=h.plc.nd
 have h2:((pr p (B.seat p).fld).map Prod.fst).Sublist (B.prs.map Prod.fst):=by
  refine List.Sublist.map _ ?_
  have hs:((B.seat p).fld).Sublist (B.seat p).all:=by
   unfold Se.all
   exact(List.sublist_append_right _ _).trans (List.sublist_append_left _ _)
  have hq:(pr p (B.seat p).fld).Sublist (pr p (B.seat p).all):=hs.map _
  have:p=0\/p=1:=by omega
  unfold Bd.prs;rcases this with rfl|rfl
  ·exact hq.trans ((List.sublist_append_left _ _).trans (List.sublist_append_left _ _))
  exact hq.trans ((List.sublist_append_right _ _).trans (List.sublist_append_left _ _))
 have h3:=h1.sublist h2;unfold pr at h3
 rw[List.map_map] at h3
 have e:(Prod.fst∘fun i:Int=>(i,(p:Int)))=id:=rfl;rw[e,List.map_id] at h3
 exact h3
def RpL(W:World)(B:Bd)(p:Ob->Bool)(lv i:Value)(wr:World):Prop:=PkL W B p lv i wr
theorem rdying(v:Value)(cs:List Cd)(s:Bs)(B:Bd)(w:World)(hs:CRow w v cs)(h:BdR w s B)(hv:VB B):Calls Tryz.prog 41 #[v,bv s B] w (PkA w (pkL B (dyB cs B) B.ob)):=by
 have HS:=Hd hs;have HR:=Hd h;have HV:=Hd hv;have HOB:Hid (B.ob.length<=500):=Hd (by have h:=hv.num;unfold vNum at h;exact h.2.2.2.2.2.1);clear h hv hs;go_enter Tryz.func41,Tryz.ntmps41
 go_upto_region 1 with fail
 change Code.wp Tryz.prog _ _ _ (w.alloc (.cells (bcells s B) 34))
 obtain⟨wz,hwz⟩:∃W,W=(w.alloc (.cells (bcells s B) 34)):=⟨_,rfl⟩
 rw[<-hwz];have b0:Below w.heap.size w wz:=by rw[hwz];exact(Below.refl _ _).alloc (Nat.le_refl _) _
 have HB:Hid (Below w.heap.size w wz):=Hd b0;have HXb:Hid (Bx wz (w.heap.size) s B):=Hd (by rw[hwz];exact(Ro.new w (bcells s B) 34));have HC1:Hid (w.heap.size+1<=wz.heap.size):=Hd (by rw[hwz];simp);clear hwz b0
 obtain⟨_,oa,ocp,hov,hof⟩:=(HR.o.ob.below HB.o).form
 have HC0:Hid (∀W,Below wz.heap.size wz W->W.cell? ⟨w.heap.size,0,none⟩=some (.slice oa B.ob.length ocp)):=Hd (fun W hb=>((HXb.o.below hb).cell 0).trans (by rw[<-hov];rfl));have HOF:=Hd hof;have hn5:B.ob.length<=500:=HOB.o;clear hov hof;go_wp2_with fail
 go_loopw [5,6] (fun lv i wr=>PkL wz B (dyB cs B) lv i wr) (fun _ i _=>B.ob.length-(intOf i).toNat)
 case atStart=>exact⟨0,none,0,by omega,rfl,rfl,Below.refl _ _,Ow.nil _ _ _⟩
 obtain⟨k,la,lc,hk,rfl,rfl,hb,ho⟩:=hrel
 have HBR:=Hd hb;have HOW:=Hd ho;have HLK:Hid ((pkL B (dyB cs B) (B.ob.take k)).length<=1000):=Hd (by have h:=pkL_len (B:=B) (p:=dyB cs B) (B.ob.take k);rw[List.length_take] at h;omega);clear hb ho;have c0:=HC0.o wr HBR.o
 by_cases hkl:k<B.ob.length
 case neg=>
  obtain rfl:k=B.ob.length:=by omega
  have t1:decide ((B.ob.length:Int)<(B.ob.length:Int))=false:=decide_eq_false (by omega);have t1':decide (B.ob.length<B.ob.length)=false:=decide_eq_false (by omega);rw[List.take_length] at HOW ⊢
  go_wp2_with fail
  go_returns
  exact⟨la,lc,rfl,HOW.o.base (fun b hb=>Nat.le_trans HB.o.size (HOW.o.typ b hb).1),below_via HB.o HBR.o⟩
 case pos=>
 have t1:decide ((k:Int)<(B.ob.length:Int))=true:=decide_eq_true (by omega);have t1':decide (k<B.ob.length)=true:=decide_eq_true hkl
 obtain⟨x,hx⟩:∃x,B.ob[k]? =some x:=⟨_,List.getElem?_eq_getElem hkl⟩
 obtain⟨b,off,rfl,hlb,hc⟩:=HOF.o (by omega)
 have hrg:wr.rangeAt b (off+k*12) (oc x):=fun j u hu=>by rw[Nat.add_assoc];exact(HBR.o.cell (p:=⟨b,_,none⟩) hlb).trans (hc k x hx j u hu)
 have HRG:=Hd hrg;have HXX:=Hd hx;have i1:(0:Int)<=(k:Int):=by omega
 have i2:(k:Int)<(B.ob.length:Int):=by omega
 have hvx:=(HV.o.plc.ob k x hx).1
 obtain⟨pw,hpw,hp2⟩:∃pw:Nat,x.ow=(pw:Nat)/\pw<2:=by
  unfold vO at hvx
  have h1:=(of_decide_eq_true hvx)
  refine⟨x.ow.toNat,?_,?_⟩<;>omega
 have HPW:=Hd hpw;have HP2:=Hd hp2
 have HCD:Hid ((x.cd== -1)=decide (x.cd<0)):=Hd (by
  unfold vO at hvx
  have h1:=(of_decide_eq_true hvx)
  by_cases h:x.cd= -1
  ·rw[h];rfl
  have h2:decide (x.cd<0)=false:=decide_eq_false (by omega);rw[h2]
  simpa using h)
 clear hc hrg hx hvx hpw hp2 hlb
 go_upto_region 5 with fail
 clear t1 t1';go_wp2_with (first|(refine wpList_load_mid rfl 47 _ rfl b (off+k*12) rfl (oc x) _ HRG.o Tryz.underlying47 rfl rfl ?_)|(refine wpList_store_o rfl x _ _ rfl rfl rfl (heap_alloc_new _ _) rfl ?_))
 intro w3 hw3;have hbx:=boxed_o hw3.out
 obtain⟨T,hT⟩:∃n,n=wr.heap.size:=⟨_,rfl⟩
 rw[<-hT] at hbx ⊢
 have HZ:Hid (Ro w3 T (oc x).toArray 47):=Hd hbx.2;replace HOW:=Hd (HOW.o.below (hT▸hbx.1));replace HBR:=Hd (below_via HBR.o (hT▸hbx.1));replace HXb:=Hd (HXb.o.below HBR.o);clear hw3 hbx hT i1 i2 HRG c0 hk;go_wp2_with (first|(refine wpList_load_bx _ rfl rfl HXb.o (by kernel_rfl) ?_)|(refine wpList_load_o x _ rfl rfl HZ.o (by kernel_rfl) ?_))
 with_reducible refine(rfield s B x pw _ (HR.o.below (below_via HB.o HBR.o)) HPW.o HP2.o (HV.o.fldN HP2.o)).mono ?_
 rintro e w4 ⟨rfl,hb⟩;replace HOW:=Hd (HOW.o.below hb);replace HBR:=Hd (below_via HBR.o hb);replace HZ:=Hd (Ro.below HZ.o hb);replace HXb:=Hd (HXb.o.below hb);clear hb
 obtain⟨r1,h1⟩:∃r,onF B x=r:=⟨_,rfl⟩
 obtain⟨r2,h2⟩:∃r,deB cs x=r:=⟨_,rfl⟩
 have HPX:Hid (dyB cs B x=(r1&&r2)):=Hd (by unfold dyB;rw[h1,h2]);have HR2:=Hd h2;rw[h1];clear h1 h2
 cases r1
 ·have HNO:Hid (pkL B (dyB cs B) (B.ob.take (k+1))=pkL B (dyB cs B) (B.ob.take k)):=Hd (by rw[pkL_next HXX.o,HPX.o,show(false&&r2)=false from rfl];simp)
  go_wp2_with fail
  go_roundw
  case rel=>exact⟨k+1,la,lc,(List.getElem?_eq_some_iff.1 HXX.o).1,by go_num,by rw[HNO.o],HBR.o,by rw[HNO.o];exact HOW.o⟩
  case measure=>have hkl:=(List.getElem?_eq_some_iff.1 HXX.o).1;simp[intOf];omega
 go_wp2_with (first|(refine wpList_load_o x _ rfl rfl HZ.o (by kernel_rfl) ?_))
 with_reducible refine(rdead _ cs x _ (HS.o.below (below_via HB.o HBR.o))).mono ?_
 rintro e w5 ⟨rfl,hb⟩;rw[HR2.o];replace HOW:=Hd (HOW.o.below hb);replace HBR:=Hd (below_via HBR.o hb);replace HZ:=Hd (Ro.below HZ.o hb);replace HXb:=Hd (HXb.o.below hb);clear hb
 cases r2
 ·have HNO:Hid (pkL B (dyB cs B) (B.ob.take (k+1))=pkL B (dyB cs B) (B.ob.take k)):=Hd (by rw[pkL_next HXX.o,HPX.o,show(true&&false)=false from rfl];simp)
  go_wp2_with fail
  go_roundw
  case rel=>exact⟨k+1,la,lc,(List.getElem?_eq_some_iff.1 HXX.o).1,by go_num,by rw[HNO.o],HBR.o,by rw[HNO.o];exact HOW.o⟩
  case measure=>have hkl:=(List.getElem?_eq_some_iff.1 HXX.o).1;simp[intOf];omega
 have HYES:Hid (pkL B (dyB cs B) (B.ob.take (k+1))=pkL B (dyB cs B) (B.ob.take k)++[x.id]):=Hd (by rw[pkL_next HXX.o,HPX.o,show(true&&true)=true from rfl];simp);have z0:w5.cell? ⟨T,0,none⟩=some (.int .i64 x.id):=Ro.cell HZ.o 0;go_wp2_with (at_builtin;refine wpList_append_ow (f:=ic) (sz:=1) rfl _ _ 26 rfl wz.heap.size 3 _ 8 Tryz.underlying26 infoI rfl (by decide) _ (pkL B (dyB cs B) (B.ob.take k)) rfl (HOW.o.below ((Below.refl _ _).alloc (Nat.le_refl _) _)) ic_ok _ [x.id] rfl (Rw.one2 (f:=ic) (sz:=1) _ 3 x.id #[.int .i64 x.id] rfl 1 _ rfl) ?c2 ?c3 ?c4 ?_)
 case c2=>have:=HLK.o;simp[maxLen];omega
 case c3=>have:=HLK.o;simp;omega
 case c4=>have:=HBR.o.size;simp;omega
 intro v8 w8 ho8 hg8 hv8
 obtain⟨va,vc,rfl⟩:=ho8.form
 have hb8:Below wz.heap.size wz w8:=(HBR.o.alloc HBR.o.size _).grown hg8 (by have:=HBR.o.size;simp;omega) (fun q hq=>(HOW.o.typ q hq).1);rw[<-HYES.o] at ho8 ⊢
 have HO8:=Hd ho8;have HB8:=Hd hb8;clear ho8 hg8 hv8 hb8 z0;go_wp2_with fail
 go_roundw
 case rel=>exact⟨k+1,va,vc,(List.getElem?_eq_some_iff.1 HXX.o).1,by go_num,rfl,HB8.o,HO8.o⟩
 case measure=>have hkl:=(List.getElem?_eq_some_iff.1 HXX.o).1;simp[intOf];omega
theorem rgone(s:Bs)(B:Bd)(w:World)(h:BdR w s B)(hv:VB B):Calls Tryz.prog 43 #[bv s B] w (PkA w (pkL B (goB B) B.ob)):=by
 have HR:=Hd h;have HV:=Hd hv;have HOB:Hid (B.ob.length<=500):=Hd (by have h:=hv.num;unfold vNum at h;exact h.2.2.2.2.2.1);clear h hv;go_enter Tryz.func43,Tryz.ntmps43
 go_upto_region 1 with fail
 change Code.wp Tryz.prog _ _ _ (w.alloc (.cells (bcells s B) 34))
 obtain⟨wz,hwz⟩:∃W,W=(w.alloc (.cells (bcells s B) 34)):=⟨_,rfl⟩
 rw[<-hwz];have b0:Below w.heap.size w wz:=by rw[hwz];exact(Below.refl _ _).alloc (Nat.le_refl _) _
 have HB:Hid (Below w.heap.size w wz):=Hd b0;have HXb:Hid (Bx wz (w.heap.size) s B):=Hd (by rw[hwz];exact(Ro.new w (bcells s B) 34));have HC1:Hid (w.heap.size+1<=wz.heap.size):=Hd (by rw[hwz];simp);clear hwz b0
 obtain⟨_,oa,ocp,hov,hof⟩:=(HR.o.ob.below HB.o).form
 have HC0:Hid (∀W,Below wz.heap.size wz W->W.cell? ⟨w.heap.size,0,none⟩=some (.slice oa B.ob.length ocp)):=Hd (fun W hb=>((HXb.o.below hb).cell 0).trans (by rw[<-hov];rfl));have HOF:=Hd hof;have hn5:B.ob.length<=500:=HOB.o;clear hov hof;go_wp2_with fail
 go_loopw [3,4] (fun lv i wr=>PkL wz B (goB B) lv i wr) (fun _ i _=>B.ob.length-(intOf i).toNat)
 case atStart=>exact⟨0,none,0,by omega,rfl,rfl,Below.refl _ _,Ow.nil _ _ _⟩
 obtain⟨k,la,lc,hk,rfl,rfl,hb,ho⟩:=hrel
 have HBR:=Hd hb;have HOW:=Hd ho;have HLK:Hid ((pkL B (goB B) (B.ob.take k)).length<=1000):=Hd (by have h:=pkL_len (B:=B) (p:=goB B) (B.ob.take k);rw[List.length_take] at h;omega);clear hb ho;have c0:=HC0.o wr HBR.o
 by_cases hkl:k<B.ob.length
 case neg=>
  obtain rfl:k=B.ob.length:=by omega
  have t1:decide ((B.ob.length:Int)<(B.ob.length:Int))=false:=decide_eq_false (by omega);have t1':decide (B.ob.length<B.ob.length)=false:=decide_eq_false (by omega);rw[List.take_length] at HOW ⊢
  go_wp2_with fail
  go_returns
  exact⟨la,lc,rfl,HOW.o.base (fun b hb=>Nat.le_trans HB.o.size (HOW.o.typ b hb).1),below_via HB.o HBR.o⟩
 case pos=>
 have t1:decide ((k:Int)<(B.ob.length:Int))=true:=decide_eq_true (by omega);have t1':decide (k<B.ob.length)=true:=decide_eq_true hkl
 obtain⟨x,hx⟩:∃x,B.ob[k]? =some x:=⟨_,List.getElem?_eq_getElem hkl⟩
 obtain⟨b,off,rfl,hlb,hc⟩:=HOF.o (by omega)
 have hrg:wr.rangeAt b (off+k*12) (oc x):=fun j u hu=>by rw[Nat.add_assoc];exact(HBR.o.cell (p:=⟨b,_,none⟩) hlb).trans (hc k x hx j u hu)
 have HRG:=Hd hrg;have HXX:=Hd hx;have i1:(0:Int)<=(k:Int):=by omega
 have i2:(k:Int)<(B.ob.length:Int):=by omega
 have hvx:=(HV.o.plc.ob k x hx).1
 obtain⟨pw,hpw,hp2⟩:∃pw:Nat,x.ow=(pw:Nat)/\pw<2:=by
  unfold vO at hvx
  have h1:=(of_decide_eq_true hvx)
  refine⟨x.ow.toNat,?_,?_⟩<;>omega
 have HPW:=Hd hpw;have HP2:=Hd hp2
 have HCD:Hid ((x.cd== -1)=decide (x.cd<0)):=Hd (by
  unfold vO at hvx
  have h1:=(of_decide_eq_true hvx)
  by_cases h:x.cd= -1
  ·rw[h];rfl
  have h2:decide (x.cd<0)=false:=decide_eq_false (by omega);rw[h2]
  simpa using h)
 clear hc hrg hx hvx hpw hp2 hlb
 go_upto_region 5 with fail
 clear t1 t1';go_wp2_with (first|(refine wpList_load_mid rfl 47 _ rfl b (off+k*12) rfl (oc x) _ HRG.o Tryz.underlying47 rfl rfl ?_)|(refine wpList_store_o rfl x _ _ rfl rfl rfl (heap_alloc_new _ _) rfl ?_))
 intro w3 hw3;have hbx:=boxed_o hw3.out
 obtain⟨T,hT⟩:∃n,n=wr.heap.size:=⟨_,rfl⟩
 rw[<-hT] at hbx ⊢
 have HZ:Hid (Ro w3 T (oc x).toArray 47):=Hd hbx.2;replace HOW:=Hd (HOW.o.below (hT▸hbx.1));replace HBR:=Hd (below_via HBR.o (hT▸hbx.1));replace HXb:=Hd (HXb.o.below HBR.o);clear hw3 hbx hT i1 i2 HRG c0 hk
 obtain⟨r2,h2⟩:∃r,(x.cd== -1)=r:=⟨_,rfl⟩
 obtain⟨r1,h1⟩:∃r,onF B x=r:=⟨_,rfl⟩
 have HPX:Hid (goB B x=(r2&& !r1)):=Hd (by unfold goB;rw[h1,<-HCD.o,h2]);have HR1:=Hd h1;have z1:w3.cell? ⟨T,1,none⟩=some (.int .i64 x.cd):=Ro.cell HZ.o 1;clear h1
 cases r2
 ·go_upto_region 6 with fail
  have HNO:Hid (pkL B (goB B) (B.ob.take (k+1))=pkL B (goB B) (B.ob.take k)):=Hd (by rw[pkL_next HXX.o,HPX.o,show(false&& !r1)=false from rfl];simp);go_wp2_with fail
  go_roundw
  case rel=>exact⟨k+1,la,lc,(List.getElem?_eq_some_iff.1 HXX.o).1,by go_num,by rw[HNO.o],HBR.o,by rw[HNO.o];exact HOW.o⟩
  case measure=>have hkl:=(List.getElem?_eq_some_iff.1 HXX.o).1;simp[intOf];omega
 go_wp2_with (first|(refine wpList_load_bx _ rfl rfl HXb.o (by kernel_rfl) ?_)|(refine wpList_load_o x _ rfl rfl HZ.o (by kernel_rfl) ?_))
 with_reducible refine(rfield s B x pw _ (HR.o.below (below_via HB.o HBR.o)) HPW.o HP2.o (HV.o.fldN HP2.o)).mono ?_
 rintro e w4 ⟨rfl,hb⟩;replace HOW:=Hd (HOW.o.below hb);replace HBR:=Hd (below_via HBR.o hb);replace HZ:=Hd (Ro.below HZ.o hb);replace HXb:=Hd (HXb.o.below hb);clear hb;rw[HR1.o];clear z1 h2
 cases r1
 ·have HYES:Hid (pkL B (goB B) (B.ob.take (k+1))=pkL B (goB B) (B.ob.take k)++[x.id]):=Hd (by rw[pkL_next HXX.o,HPX.o,show(true&& !false)=true from rfl];simp)
  have z0:w4.cell? ⟨T,0,none⟩=some (.int .i64 x.id):=Ro.cell HZ.o 0;go_wp2_with (at_builtin;refine wpList_append_ow (f:=ic) (sz:=1) rfl _ _ 26 rfl wz.heap.size 3 _ 8 Tryz.underlying26 infoI rfl (by decide) _ (pkL B (goB B) (B.ob.take k)) rfl (HOW.o.below ((Below.refl _ _).alloc (Nat.le_refl _) _)) ic_ok _ [x.id] rfl (Rw.one2 (f:=ic) (sz:=1) _ 3 x.id #[.int .i64 x.id] rfl 1 _ rfl) ?c2 ?c3 ?c4 ?_)
  case c2=>have:=HLK.o;simp[maxLen];omega
  case c3=>have:=HLK.o;simp;omega
  case c4=>have:=HBR.o.size;simp;omega
  intro v8 w8 ho8 hg8 hv8
  obtain⟨va,vc,rfl⟩:=ho8.form
  have hb8:Below wz.heap.size wz w8:=(HBR.o.alloc HBR.o.size _).grown hg8 (by have:=HBR.o.size;simp;omega) (fun q hq=>(HOW.o.typ q hq).1);rw[<-HYES.o] at ho8 ⊢
  have HO8:=Hd ho8;have HB8:=Hd hb8;clear ho8 hg8 hv8 hb8 z0;go_wp2_with fail
  go_roundw
  case rel=>exact⟨k+1,va,vc,(List.getElem?_eq_some_iff.1 HXX.o).1,by go_num,rfl,HB8.o,HO8.o⟩
  case measure=>have hkl:=(List.getElem?_eq_some_iff.1 HXX.o).1;simp[intOf];omega
 have HNO:Hid (pkL B (goB B) (B.ob.take (k+1))=pkL B (goB B) (B.ob.take k)):=Hd (by rw[pkL_next HXX.o,HPX.o,show(true&& !true)=false from rfl];simp);go_wp2_with fail
 go_roundw
 case rel=>exact⟨k+1,la,lc,(List.getElem?_eq_some_iff.1 HXX.o).1,by go_num,by rw[HNO.o],HBR.o,by rw[HNO.o];exact HOW.o⟩
 case measure=>have hkl:=(List.getElem?_eq_some_iff.1 HXX.o).1;simp[intOf];omega
end Go.Proofs.YtpbepnpnpopmfaaGreat
namespace Go.Proofs.YtpbepnpnpopmfaaGreat
open Plain
set_option linter.unusedVariables false
set_option linter.unusedSimpArgs false

theorem nz1(m:Nat):((m:Int)==0)=(m==0):=by cases m<;>rfl
theorem nz2(a b:Nat):((a:Int)+(b:Int)==0)=((a==0)&&(b==0)):=by cases a<;>cases b<;>rfl
theorem rstable_bad(v:Value)(cs:List Cd)(s:Bs)(B:Bd)(w:World)(hs:CRow w v cs)(hc:CI cs)(h:BdR w s B)(hi:B.I)(hsm:B.Sm)(hv:¬VB B):Calls Tryz.prog 21 #[v,bv s B] w fun e w' =>e= .returned (.bool false)/\Below w.heap.size w w':=by
 have HS:=Hd hs;have HR:=Hd h;have HI:=Hd hi;have HSM:=Hd hsm;have HV:=Hd hv;clear hs h hi hsm hv;go_enter Tryz.func21,Tryz.ntmps21
 go_upto_region 1 with fail
 change Code.wp Tryz.prog _ _ _ (w.alloc (.cells (bcells s B) 34))
 obtain⟨wz,hwz⟩:∃W,W=(w.alloc (.cells (bcells s B) 34)):=⟨_,rfl⟩
 rw[<-hwz];have b0:Below w.heap.size w wz:=by rw[hwz];exact(Below.refl _ _).alloc (Nat.le_refl _) _
 have HB:Hid (Below w.heap.size w wz):=Hd b0;have HXb:Hid (Bx wz (w.heap.size) s B):=Hd (by rw[hwz];exact(Ro.new w (bcells s B) 34));have HC1:Hid (w.heap.size+1<=wz.heap.size):=Hd (by rw[hwz];simp);clear hwz b0;go_wp2_with (first|(refine wpList_load_bx _ rfl rfl HXb.o (by kernel_rfl) ?_))
 with_reducible refine(brvalid s (B) _ (HR.o.below HB.o) HI.o HSM.o).mono ?_
 rintro e w1 ⟨⟨r,rfl,hr⟩,hb⟩;have HC2:Hid (wz.heap.size<=w1.heap.size):=Hd (hb.size);replace HB:=Hd (below_via HB.o hb);replace HXb:=Hd (HXb.o.below hb);obtain rfl:r=false:=by cases r with|false=>rfl|true=>exact absurd (hr.1 rfl) HV.o
 clear hr hb;go_wp2_with fail
 go_returns
 exact⟨rfl,HB.o⟩
theorem rstable_ok(v:Value)(cs:List Cd)(s:Bs)(B:Bd)(w:World)(hs:CRow w v cs)(hc:CI cs)(h:BdR w s B)(hv:VB B):Calls Tryz.prog 21 #[v,bv s B] w fun e w' =>e= .returned (.bool (((dyL cs B).length:Int)+((goL B).length:Int)==0))/\Below w.heap.size w w':=by
 have HS:=Hd hs;have HR:=Hd h;have HV:=Hd hv
 obtain⟨m1,hm1⟩:∃n,(dyL cs B).length=n:=⟨_,rfl⟩
 obtain⟨m2,hm2⟩:∃n,(goL B).length=n:=⟨_,rfl⟩
 have HM1:=Hd hm1;have HM2:=Hd hm2
 obtain⟨r1,hr1⟩:∃r,(m1==0)=r:=⟨_,rfl⟩
 obtain⟨r2,hr2⟩:∃r,(m2==0)=r:=⟨_,rfl⟩
 have t1:((m1:Int)==0)=r1:=(nz1 m1).trans hr1;have t2:((m2:Int)==0)=r2:=(nz1 m2).trans hr2;have HE:Hid ((((dyL cs B).length:Int)+((goL B).length:Int)==0)=(r1&&r2)):=Hd (by rw[hm1,hm2,<-hr1,<-hr2];exact nz2 m1 m2);clear hs h hv hm1 hm2;go_enter Tryz.func21,Tryz.ntmps21
 go_upto_region 1 with fail
 change Code.wp Tryz.prog _ _ _ (w.alloc (.cells (bcells s B) 34))
 obtain⟨wz,hwz⟩:∃W,W=(w.alloc (.cells (bcells s B) 34)):=⟨_,rfl⟩
 rw[<-hwz];have b0:Below w.heap.size w wz:=by rw[hwz];exact(Below.refl _ _).alloc (Nat.le_refl _) _
 have HB:Hid (Below w.heap.size w wz):=Hd b0;have HXb:Hid (Bx wz (w.heap.size) s B):=Hd (by rw[hwz];exact(Ro.new w (bcells s B) 34));have HC1:Hid (w.heap.size+1<=wz.heap.size):=Hd (by rw[hwz];simp);clear hwz b0;go_wp2_with (first|(refine wpList_load_bx _ rfl rfl HXb.o (by kernel_rfl) ?_))
 with_reducible refine(brvalid s (B) _ (HR.o.below HB.o) HV.o.i HV.o.sm).mono ?_
 rintro e w1 ⟨⟨r,rfl,hr⟩,hb⟩;have HC2:Hid (wz.heap.size<=w1.heap.size):=Hd (hb.size);replace HB:=Hd (below_via HB.o hb);replace HXb:=Hd (HXb.o.below hb);obtain rfl:r=true:=hr.2 HV.o;clear hr hb;go_wp2_with (first|(refine wpList_load_bx _ rfl rfl HXb.o (by kernel_rfl) ?_))
 with_reducible refine(rdying v cs s B _ (HS.o.below HB.o) (HR.o.below HB.o) HV.o).mono ?_
 rintro e w2 ⟨da,dc,rfl,_,hb⟩;have HC3:Hid (w1.heap.size<=w2.heap.size):=Hd (hb.size);replace HB:=Hd (below_via HB.o hb);replace HXb:=Hd (HXb.o.below hb);rw[show(pkL B (dyB cs B) B.ob).length=m1 from HM1.o];clear hb
 cases r1
 ·go_wp2_with fail
  go_returns
  exact⟨by rw[HE.o];rfl,HB.o⟩
 go_wp2_with (first|(refine wpList_load_bx _ rfl rfl HXb.o (by kernel_rfl) ?_))
 with_reducible refine(rgone s B _ (HR.o.below HB.o) HV.o).mono ?_
 rintro e w3 ⟨ga,gc,rfl,_,hb⟩;have HC4:Hid (w2.heap.size<=w3.heap.size):=Hd (hb.size);replace HB:=Hd (below_via HB.o hb);replace HXb:=Hd (HXb.o.below hb);rw[show(pkL B (goB B) B.ob).length=m2 from HM2.o];clear hb
 cases r2
 ·go_wp2_with fail
  go_returns
  exact⟨by rw[HE.o];rfl,HB.o⟩
 go_wp2_with fail
 go_returns
 exact⟨by rw[HE.o];rfl,HB.o⟩
theorem rlost(s:Bs)(B:Bd)(w:World)(h:BdR w s B):Calls Tryz.prog 20 #[bv s B] w fun e w' =>e= .returned (.agg #[.bool (loS B.s0),.bool (loS B.s1)])/\Below w.heap.size w w':=by
 clear h;go_enter Tryz.func20,Tryz.ntmps20
 go_upto_region 1 with fail
 change Code.wp Tryz.prog _ _ _ ((w.alloc (.cells (bcells s B) 34)).alloc (.cells #[.bool false,.bool false] 44))
 obtain⟨wz,hwz⟩:∃W,W=((w.alloc (.cells (bcells s B) 34)).alloc (.cells #[.bool false,.bool false] 44)):=⟨_,rfl⟩
 rw[<-hwz];have b0:Below w.heap.size w (w.alloc (.cells (bcells s B) 34)):=by exact(Below.refl _ _).alloc (Nat.le_refl _) _
 have b1:Below (w.alloc (.cells (bcells s B) 34)).heap.size (w.alloc (.cells (bcells s B) 34)) wz:=by rw[hwz];exact(Below.refl _ _).alloc (Nat.le_refl _) _
 have HB:Hid (Below w.heap.size w wz):=Hd (below_via b0 b1);have HXb:Hid (Bx wz (w.heap.size) s B):=Hd ((Ro.new w (bcells s B) 34).below b1:Ro _ _ _ _);have HXz:Hid (Ro wz (w.heap.size+1) #[.bool false,.bool false] 44):=Hd (by rw[show w.heap.size+1=(w.alloc (.cells (bcells s B) 34)).heap.size by simp];exact(by rw[hwz];exact(Ro.new (w.alloc (.cells (bcells s B) 34)) #[.bool false,.bool false] 44)));have HC1:Hid (w.heap.size+2<=wz.heap.size):=Hd (by rw[hwz];simp);clear hwz b0 b1
 obtain⟨r1,h1⟩:∃r,(B.s0.li==0)=r:=⟨_,rfl⟩
 obtain⟨r2,h2⟩:∃r,B.s0.em=r:=⟨_,rfl⟩
 obtain⟨r3,h3⟩:∃r,(B.s1.li==0)=r:=⟨_,rfl⟩
 obtain⟨r4,h4⟩:∃r,B.s1.em=r:=⟨_,rfl⟩
 have HE0:Hid (loS B.s0=(r2||r1)):=Hd (by unfold loS;rw[h1,h2]);have HE1:Hid (loS B.s1=(r4||r3)):=Hd (by unfold loS;rw[h3,h4]);have c1:wz.cell? ⟨w.heap.size,1,none⟩=some (.int .i64 B.s0.li):=HXb.o.cell 1;have c10:wz.cell? ⟨w.heap.size,10,none⟩=some (.bool r2):=by rw[HXb.o.cell 10,<-h2];rfl
 have c15:wz.cell? ⟨w.heap.size,15,none⟩=some (.int .i64 B.s1.li):=HXb.o.cell 15;have c24:wz.cell? ⟨w.heap.size,24,none⟩=some (.bool r4):=by rw[HXb.o.cell 24,<-h4];rfl
 clear h2 h4
 cases r1
 ·cases r3
  ·go_wp2_with (first|(refine wpList_store_rx 44 rfl _ _ rfl rfl rfl HXz.o rfl rfl (by simp[Value.oneCell']) ?_))
   intro w9 hw9;have hon:=st_o hw9;have HG9:=Hd (st_r HXz.o hw9);have HB9:Hid (Below w.heap.size w w9):=Hd (belowOnl HB.o hon (by simp) HB.o.size);clear hw9 hon;go_wp2_with fail
   exact bodyPost_ret (results_cell_row Tryz.results20 _ _ _ _ _ _ _ rfl HG9.o Tryz.underlying44 rfl (by kernel_rfl)) rfl ⟨by rw[HE0.o,HE1.o];simp,HB9.o⟩
  go_wp2_with (first|(refine wpList_store_rx 44 rfl _ _ rfl rfl rfl HXz.o rfl rfl (by simp[Value.oneCell']) ?_))
  intro w9 hw9;have hon:=st_o hw9;have HG9:=Hd (st_r HXz.o hw9);have HB9:Hid (Below w.heap.size w w9):=Hd (belowOnl HB.o hon (by simp) HB.o.size);clear hw9 hon;go_wp2_with fail
  exact bodyPost_ret (results_cell_row Tryz.results20 _ _ _ _ _ _ _ rfl HG9.o Tryz.underlying44 rfl (by kernel_rfl)) rfl ⟨by rw[HE0.o,HE1.o];simp,HB9.o⟩
 cases r3
 ·go_wp2_with (first|(refine wpList_store_rx 44 rfl _ _ rfl rfl rfl HXz.o rfl rfl (by simp[Value.oneCell']) ?_))
  intro w9 hw9;have hon:=st_o hw9;have HG9:=Hd (st_r HXz.o hw9);have HB9:Hid (Below w.heap.size w w9):=Hd (belowOnl HB.o hon (by simp) HB.o.size);clear hw9 hon;go_wp2_with fail
  exact bodyPost_ret (results_cell_row Tryz.results20 _ _ _ _ _ _ _ rfl HG9.o Tryz.underlying44 rfl (by kernel_rfl)) rfl ⟨by rw[HE0.o,HE1.o];simp,HB9.o⟩
 go_wp2_with (first|(refine wpList_store_rx 44 rfl _ _ rfl rfl rfl HXz.o rfl rfl (by simp[Value.oneCell']) ?_))
 intro w9 hw9;have hon:=st_o hw9;have HG9:=Hd (st_r HXz.o hw9);have HB9:Hid (Below w.heap.size w w9):=Hd (belowOnl HB.o hon (by simp) HB.o.size);clear hw9 hon;go_wp2_with fail
 exact bodyPost_ret (results_cell_row Tryz.results20 _ _ _ _ _ _ _ rfl HG9.o Tryz.underlying44 rfl (by kernel_rfl)) rfl ⟨by rw[HE0.o,HE1.o];simp,HB9.o⟩
theorem stab2(cs:List Cd)(s:Bs)(B:Bd)(hc:CI cs)(hi:B.I)(hsm:B.Sm):∃r:Bool,(∀(v:Value) (w:World),CRow w v cs->BdR w s B->Calls Tryz.prog 11 #[v,bv s B] w fun e w' =>e= .returned (.bool r)/\Below w.heap.size w w')/\(∀(v:Value) (w:World),CRow w v cs->BdR w s B->Calls Tryz.prog 21 #[v,bv s B] w fun e w' =>e= .returned (.bool r)/\Below w.heap.size w w'):=by
 by_cases hv:VB B
 ·exact⟨_,fun v w h1 h2=>bstable_ok v cs s B w h1 hc h2 hv,fun v w h1 h2=>rstable_ok v cs s B w h1 hc h2 hv⟩
 exact⟨_,fun v w h1 h2=>bstable_bad v cs s B w h1 hc h2 hi hsm hv,fun v w h1 h2=>rstable_bad v cs s B w h1 hc h2 hi hsm hv⟩
end Go.Proofs.YtpbepnpnpopmfaaGreat
