/- An object that moves, by the reference. -/
import Derived.Test.YtpbepnpnpopmfaaGreatTSe
import Derived.Test.YtpbepnpnpopmfaaGreatTOu
import Derived.Deep.DeepCutAuto
import Derived.LoopTactic
import Derived.Deep.MidRow
open Go.RowKit Go.Proofs.YtpbepnpnpopmfaaGreat
set_option maxRecDepth 100000
set_option maxHeartbeats 4000000
namespace Go.Proofs.YtpbepnpnpopmfaaGreat
open Plain
set_option linter.unusedVariables false
set_option linter.unusedSimpArgs false

theorem rg28_1{P:Program}{B n:Nat}{w0:World}{L:List (Nat×Nat×Value)}{E F:World->Prop}{id:Nat}{Q:Exit->Act->World->Prop}{a:Act}{w:World}{A:Array Oper}{o0 o1 o2 o3 o4 o5 o6 o7 o8 o9 o10:Oper}(hm:P.follows .mixedOrders=true)(hA:A=[o0,o1,o2,o3,o4,o5,o6,o7,o8,o9,o10].toArray)(hB:regOk A [1,2,6] [0,3,5,7] (.fs [0,3,7] (.rs [1,2] (.alt 4 (.fs [5] (.rs [6] (.altc 8 (.alt 9 (.altc 10 .done .stop) .stop) (.alt 9 (.altc 8 (.altc 10 .done .stop) .stop) .stop)))) (.alt 9 (.alt 4 (.fs [5] (.rs [6] (.altc 8 (.altc 10 .done .stop) .stop))) .stop) .stop))))=true)(c:RC B w0 n L E F w)
  (h:∀wk,Kept B w0 n L wk->E wk->F wk->wpQuiet P A (fun _=>True) (fun a0=>wpQuiet P A (fun w' =>∃s:KX B w0 n L E,w' =s.val) (fun a1=>((∀K2:Act->World->Prop,(∀a2 w2,wpQuiet P A (fun _=>True) (fun a3=>wpQuiet P A (fun w' =>∃s:KX B w0 n L E,w' =s.val) (fun a4=>((∀K5:Act->World->Prop,(∀a5 w5,((∀K6:Act->World->Prop,(∀a6 w6,((∀K7:Act->World->Prop,(∀a7 w7,Q .normal a7 w7->K7 a7 w7)->wpList P A (fun e a7 w7=>e= .normal/\K7 a7 w7) [o10] a6 w6)/\True)->K6 a6 w6)->wpList P A (fun e a6 w6=>e= .normal/\(∃s:KX B w0 n L E,w6=s.val)/\K6 a6 w6) [o9] a5 w5)/\True)->K5 a5 w5)->wpList P A (fun e a5 w5=>e= .normal/\K5 a5 w5) [o8] a4 w2)/\(∀K5:Act->World->Prop,(∀a5 w5,((∀K6:Act->World->Prop,(∀a6 w6,((∀K7:Act->World->Prop,(∀a7 w7,Q .normal a7 w7->K7 a7 w7)->wpList P A (fun e a7 w7=>e= .normal/\K7 a7 w7) [o10] a6 w6)/\True)->K6 a6 w6)->wpList P A (fun e a6 w6=>e= .normal/\K6 a6 w6) [o8] a5 w5)/\True)->K5 a5 w5)->wpList P A (fun e a5 w5=>e= .normal/\(∃s:KX B w0 n L E,w5=s.val)/\K5 a5 w5) [o9] a4 w2)/\True)) [o6] a3) [o5] a2->K2 a2 w2)->wpList P A (fun e a2 w2=>e= .normal/\(∃s:KX B w0 n L E,w2=s.val)/\K2 a2 w2) [o4] a1 wk)/\(∀K2:Act->World->Prop,(∀a2 w2,((∀K3:Act->World->Prop,(∀a3 w3,wpQuiet P A (fun _=>True) (fun a4=>wpQuiet P A (fun w' =>∃s:KX B w0 n L E,w' =s.val) (fun a5=>((∀K6:Act->World->Prop,(∀a6 w6,((∀K7:Act->World->Prop,(∀a7 w7,Q .normal a7 w7->K7 a7 w7)->wpList P A (fun e a7 w7=>e= .normal/\K7 a7 w7) [o10] a6 w6)/\True)->K6 a6 w6)->wpList P A (fun e a6 w6=>e= .normal/\K6 a6 w6) [o8] a5 w3)/\True)) [o6] a4) [o5] a3->K3 a3 w3)->wpList P A (fun e a3 w3=>e= .normal/\(∃s:KX B w0 n L E,w3=s.val)/\K3 a3 w3) [o4] a2 w2)/\True)->K2 a2 w2)->wpList P A (fun e a2 w2=>e= .normal/\(∃s:KX B w0 n L E,w2=s.val)/\K2 a2 w2) [o9] a1 wk)/\True)) [o1,o2] a0) [o0,o3,o7] a):(Code.region id A true).wp P Q a w:=by
 subst hA;exact wp_reg _ _ _ hm hB c (fun wk k e f=>have g:=h wk k e f;Scr.of_fs _ _ rfl g fun _ g=>Scr.of_rs _ _ rfl g fun _ g=>(Scr.of_alt rfl (g.1 _ fun _ _ g=>g) (fun _ _ g=>Scr.of_fs _ _ rfl g fun _ g=>Scr.of_rs _ _ rfl g fun _ g=>(Scr.of_altc rfl (g.1 _ fun _ _ g=>g) (fun _ _ g=>(Scr.of_alt rfl (g.1 _ fun _ _ g=>g) (fun _ _ g=>(Scr.of_altc rfl (g.1 _ fun _ _ g=>g) (fun _ _ g=>g) trivial)) trivial)) (Scr.of_alt rfl (g.2.1 _ fun _ _ g=>g) (fun _ _ g=>(Scr.of_altc rfl (g.1 _ fun _ _ g=>g) (fun _ _ g=>(Scr.of_altc rfl (g.1 _ fun _ _ g=>g) (fun _ _ g=>g) trivial)) trivial)) trivial))) (Scr.of_alt rfl (g.2.1 _ fun _ _ g=>g) (fun _ _ g=>(Scr.of_alt rfl (g.1 _ fun _ _ g=>g) (fun _ _ g=>Scr.of_fs _ _ rfl g fun _ g=>Scr.of_rs _ _ rfl g fun _ g=>(Scr.of_altc rfl (g.1 _ fun _ _ g=>g) (fun _ _ g=>(Scr.of_altc rfl (g.1 _ fun _ _ g=>g) (fun _ _ g=>g) trivial)) trivial)) trivial)) trivial)))
theorem rg28_2{P:Program}{B n:Nat}{w0:World}{L:List (Nat×Nat×Value)}{E F:World->Prop}{id:Nat}{Q:Exit->Act->World->Prop}{a:Act}{w:World}{A:Array Oper}{o0 o1 o2 o3 o4 o5 o6 o7 o8:Oper}(hm:P.follows .mixedOrders=true)(hA:A=[o0,o1,o2,o3,o4,o5,o6,o7,o8].toArray)(hB:regOk A [0,3,5] [1,6] (.fs [1,6] (.rs [0,3,5] (.alt 2 (.alt 4 (.altc 7 (.altc 8 .done .stop) .stop) .stop) .stop)))=true)(c:RC B w0 n L E F w)
  (h:∀wk,Kept B w0 n L wk->E wk->F wk->wpQuiet P A (fun _=>True) (fun a0=>wpQuiet P A (fun w' =>∃s:KX B w0 n L E,w' =s.val) (fun a1=>((∀K2:Act->World->Prop,(∀a2 w2,((∀K3:Act->World->Prop,(∀a3 w3,((∀K4:Act->World->Prop,(∀a4 w4,((∀K5:Act->World->Prop,(∀a5 w5,Q .normal a5 w5->K5 a5 w5)->wpList P A (fun e a5 w5=>e= .normal/\K5 a5 w5) [o8] a4 w4)/\True)->K4 a4 w4)->wpList P A (fun e a4 w4=>e= .normal/\K4 a4 w4) [o7] a3 w3)/\True)->K3 a3 w3)->wpList P A (fun e a3 w3=>e= .normal/\(∃s:KX B w0 n L E,w3=s.val)/\K3 a3 w3) [o4] a2 w2)/\True)->K2 a2 w2)->wpList P A (fun e a2 w2=>e= .normal/\(∃s:KX B w0 n L E,w2=s.val)/\K2 a2 w2) [o2] a1 wk)/\True)) [o0,o3,o5] a0) [o1,o6] a):(Code.region id A true).wp P Q a w:=by
 subst hA;exact wp_reg _ _ _ hm hB c (fun wk k e f=>have g:=h wk k e f;Scr.of_fs _ _ rfl g fun _ g=>Scr.of_rs _ _ rfl g fun _ g=>(Scr.of_alt rfl (g.1 _ fun _ _ g=>g) (fun _ _ g=>(Scr.of_alt rfl (g.1 _ fun _ _ g=>g) (fun _ _ g=>(Scr.of_altc rfl (g.1 _ fun _ _ g=>g) (fun _ _ g=>(Scr.of_altc rfl (g.1 _ fun _ _ g=>g) (fun _ _ g=>g) trivial)) trivial)) trivial)) trivial))
theorem rresetv(x:Ob)(z:Int)(w:World):Calls Tryz.prog 47 #[.agg #[.int .i64 x.id,.int .i64 x.cd,.int .i64 x.ow,.int .i64 x.po,.int .i64 x.tg,.int .i64 x.da,.int .i64 x.co,.int .i64 x.pp,.int .i64 x.pt,.bool x.ta,.bool x.si,.bool x.dm],.int .i64 z] w fun e w' =>e= .returned (.agg (oc (rsO x z)).toArray)/\Below w.heap.size w w':=rreset x z w
def Plain.moB(B:Bd)(k:Nat)(x:Ob)(zn:Int):Bd:={outB B x.id with ob:=B.ob.set k (rsO x zn)}
def Plain.mvB(B:Bd)(k:Nat)(x:Ob)(p zn:Nat):Bd:=(moB B k x zn).setL p zn (((moB B k x zn).seat p).zs zn++[x.id])
theorem rsetm(s:Bs)(B:Bd)(x:Ob)(k:Nat)(z:Int)(w:World)(h:BdR w s (outB B x.id))(hsm:(outB B x.id).Sm)(htl:(outB B x.id).Tl)(hk:∃y,(outB B x.id).ob[k]? =some y/\y.id=(rsO x z).id)(hf:∀(j:Nat) (q:Ob),j<k->(outB B x.id).ob[j]? =some q->q.id≠(rsO x z).id):Calls Tryz.prog 49 #[bv s (outB B x.id),.agg (oc (rsO x z)).toArray] w (CpA w (moB B k x z)):=rset s (outB B x.id) (rsO x z) k w h hsm htl hk hf
theorem wo_len(n:Int)(l:List Int):(wo n l).length<=l.length:=List.length_filter_le _ _
theorem out_zs(B:Bd)(n:Int)(p z:Nat):((outB B n).seat p).zs z=wo n ((B.seat p).zs z):=by
 unfold Bd.seat Se.zs
 split<;>(repeat' split)<;>rfl
theorem out_sm{B:Bd}(h:B.Sm)(n:Int):(outB B n).Sm:=
 ⟨fun p z=>by rw[out_zs];exact Nat.le_trans (wo_len _ _) (h.zs p z),h.ob,Nat.le_trans (List.length_filter_le _ _) h.st,h.qu,Nat.le_trans (wo_len _ _) h.att,Nat.le_trans (List.length_filter_le _ _) h.bl⟩
theorem out_tl{B:Bd}(h:B.Tl)(n:Int):(outB B n).Tl:=⟨fun x hx=>h.st x (List.mem_filter.1 hx).1,h.qu⟩
theorem set_sm{B:Bd}(h:B.Sm)(k:Nat)(x:Ob):({B with ob:=B.ob.set k x}:Bd).Sm:=⟨h.zs,by show(B.ob.set k x).length<=1000;rw[List.length_set];exact h.ob,h.st,h.qu,h.att,h.bl⟩
def PutOk(zn:Nat):Prop:=∀(s:Bs) (B:Bd) (x:Ob) (p lo hi:Nat) (w:World),BdO lo hi w s B->lo<=w.heap.size->hi<=w.heap.size->B.Sm->p<2->x.ow=(p:Nat)->Calls Tryz.prog 48 #[bv s B,.agg (oc x).toArray,.int .i64 zn] w (PtA lo w (B.setL p zn ((B.seat p).zs zn++[x.id])))
theorem PutOk.put{zn:Nat}(hput:PutOk zn)(s:Bs)(B:Bd)(x:Ob)(p lo hi:Nat)(w:World)(h:BdO lo hi w s B)(hlo:lo<=w.heap.size)(hhi:hi<=w.heap.size)(hsm:B.Sm)(hp:p<2)(hox:x.ow=(p:Nat)):Calls Tryz.prog 48 #[bv s B,.agg (oc x).toArray,.int .i64 zn] w (PtA lo w (B.setL p zn ((B.seat p).zs zn++[x.id]))):=hput s B x p lo hi w h hlo hhi hsm hp hox
theorem rmoveZ(zn:Nat)(hput:PutOk zn)(s:Bs)(B:Bd)(k:Nat)(x:Ob)(p:Nat)(w:World)(h:BdR w s B)(hsm:B.Sm)(htl:B.Tl)(hk:B.ob[k]? =some x)(hf:∀(j:Nat) (q:Ob),j<k->B.ob[j]? =some q->q.id≠x.id)(hp:p<2)(how:x.ow=(p:Nat)):Calls Tryz.prog 28 #[bv s B,.int .i64 x.id,.int .i64 zn] w (CpA w (mvB B k x p zn)):=by
 have HPUT:=Hd hput;have HR:=Hd h;have HSM:=Hd hsm;have HTL:=Hd htl;have HKX:=Hd hk;have HF:=Hd hf;have HOWN:=Hd how;have HPP:=Hd hp;have HKO:Hid (∃y,(outB B x.id).ob[k]? =some y/\y.id=(rsO x zn).id):=Hd ⟨x,hk,rfl⟩;have HFO:Hid (∀(j:Nat) (q:Ob),j<k->(outB B x.id).ob[j]? =some q->q.id≠(rsO x zn).id):=Hd hf;have HSM2:Hid ((moB B k x zn).Sm):=Hd (set_sm (out_sm hsm x.id) k (rsO x zn));have HOW2:Hid ((rsO x zn).ow=(p:Nat)):=Hd how;clear h hsm htl hf how hput;go_enter Tryz.func28,Tryz.ntmps28
 go_upto_region 1 with fail
 change Code.wp Tryz.prog _ _ _ ((w.alloc (.cells (bcells s B) 34)).alloc (.cells (bcells nilS zeroB) 34))
 obtain⟨wz,hwz⟩:∃W,W=((w.alloc (.cells (bcells s B) 34)).alloc (.cells (bcells nilS zeroB) 34)):=⟨_,rfl⟩
 rw[<-hwz];have b0:Below w.heap.size w (w.alloc (.cells (bcells s B) 34)):=by exact(Below.refl _ _).alloc (Nat.le_refl _) _
 have b1:Below (w.alloc (.cells (bcells s B) 34)).heap.size (w.alloc (.cells (bcells s B) 34)) wz:=by rw[hwz];exact(Below.refl _ _).alloc (Nat.le_refl _) _
 have HB:Hid (Below w.heap.size w wz):=Hd (below_via b0 b1);have HXb:Hid (Bx wz (w.heap.size) s B):=Hd ((Ro.new w (bcells s B) 34).below b1:Ro _ _ _ _);have HXz:Hid (Bx wz (w.heap.size+1) nilS zeroB):=Hd (by rw[show w.heap.size+1=(w.alloc (.cells (bcells s B) 34)).heap.size by simp];exact(by rw[hwz];exact(Ro.new (w.alloc (.cells (bcells s B) 34)) (bcells nilS zeroB) 34)));have HC1:Hid (w.heap.size+2<=wz.heap.size):=Hd (by rw[hwz];simp);clear hwz b0 b1;have hkl:k<B.ob.length:=(List.getElem?_eq_some_iff.1 hk).1
 obtain⟨bo,oo,oc9,h0,hbl,hrg⟩:=obj_at HXb.o (HR.o.below HB.o) hk
 have hb0:w.heap.size<wz.heap.size:=HXb.o.lt;have d0:wz.cell? ⟨bo,oo+k*12,none⟩=some (.int .i64 x.id):=hrg 0 _ rfl;have d1:wz.cell? ⟨bo,oo+k*12+1,none⟩=some (.int .i64 x.cd):=hrg 1 _ rfl;have d2:wz.cell? ⟨bo,oo+k*12+2,none⟩=some (.int .i64 x.ow):=hrg 2 _ rfl;have d3:wz.cell? ⟨bo,oo+k*12+3,none⟩=some (.int .i64 x.po):=hrg 3 _ rfl;have d4:wz.cell? ⟨bo,oo+k*12+4,none⟩=some (.int .i64 x.tg):=hrg 4 _ rfl;have d5:wz.cell? ⟨bo,oo+k*12+5,none⟩=some (.int .i64 x.da):=hrg 5 _ rfl;have d6:wz.cell? ⟨bo,oo+k*12+6,none⟩=some (.int .i64 x.co):=hrg 6 _ rfl;have d7:wz.cell? ⟨bo,oo+k*12+7,none⟩=some (.int .i64 x.pp):=hrg 7 _ rfl;have d8:wz.cell? ⟨bo,oo+k*12+8,none⟩=some (.int .i64 x.pt):=hrg 8 _ rfl;have d9:wz.cell? ⟨bo,oo+k*12+9,none⟩=some (.bool x.ta):=hrg 9 _ rfl;have d10:wz.cell? ⟨bo,oo+k*12+10,none⟩=some (.bool x.si):=hrg 10 _ rfl;have d11:wz.cell? ⟨bo,oo+k*12+11,none⟩=some (.bool x.dm):=hrg 11 _ rfl;have i1:(0:Int)<=(k:Int):=by omega
 have i2:(k:Int)<(B.ob.length:Int):=by omega
 clear hrg hk hkl;refine rg28_1 (w0:=wz) (B:=wz.heap.size) (n:=wz.heap.size) (L:=[]) (by kernel_rfl) rfl (by kernel_rfl) (.t ⟨by go_grown,by go_size,(by simp[go_sem]<;>omega)⟩) (fun w61 K_w61 E_w61 F_w61=> ?_);have _ne:Nonempty (KX (wz.heap.size) wz (wz.heap.size) [] (fun _=>True)):=⟨⟨_,K_w61,E_w61⟩⟩;have qb0:∀W',(∃s':KX (wz.heap.size) wz (wz.heap.size) [] (fun _=>True),W' =s'.val)->Bx W' w.heap.size s B:=by rintro _ ⟨s',rfl⟩;exact HXb.o.below s'.kept.below
 repeat (first|(go_big_quiet_want;apply quiet_load_bx _ rfl rfl qb0;(focus(simp[go_sem];rfl));go_big_quiet_on)|go_big_quiet_step (fail))
 refine wpQuiet_nil ?_;have ra:=rck _ne h0 hb0;have rd0:=rck _ne d0 hbl;have rd1:=rck _ne d1 hbl;have rd2:=rck _ne d2 hbl;have rd3:=rck _ne d3 hbl;have rd4:=rck _ne d4 hbl;have rd5:=rck _ne d5 hbl;have rd6:=rck _ne d6 hbl;have rd7:=rck _ne d7 hbl;have rd8:=rck _ne d8 hbl;have rd9:=rck _ne d9 hbl;have rd10:=rck _ne d10 hbl;have rd11:=rck _ne d11 hbl
 repeat (first|(go_big_quiet_want;apply quiet_load_bx _ rfl rfl qb0;(focus(simp[go_sem];rfl));go_big_quiet_on)|go_big_quiet_step (fail))
 refine wpQuiet_nil ?_;have KH_w61:=Hd K_w61;have hw_w61:=K_w61.below;have hz_w61:=K_w61.size;clear K_w61;clear E_w61 F_w61
 refine⟨fun K hK0=> ?_,fun K hK0=> ?_,trivial⟩
 ·skip
  have hK:=Hd hK0;clear hK0;go_wp2_with fail
  with_reducible refine(rindex s B x.id _ (HR.o.below (below_via HB.o KH_w61.o.below))).mono ?_
  rintro e v4 ⟨⟨r,rfl,hr⟩,hb⟩;have HL4:Hid (Below wz.heap.size wz v4):=Hd (below_via KH_w61.o.below hb)
  obtain rfl:r=k:=by
   rcases hr with⟨_,h1⟩|⟨i,q,rfl,h2,h3,h4⟩
   ·exact absurd rfl (h1 k x HKX.o)
   rcases Nat.lt_trichotomy i k with h5|h5|h5
   ·exact absurd h3 (HF.o i q h5 h2)
   ·rw[h5]
   exact absurd rfl (h4 k x h5 HKX.o)
  clear hr hb;go_wp2_with fail
  first|refine⟨rfl,?u,hK.o _ _ ?_⟩|refine⟨?u,hK.o _ _ ?_⟩
  case u=>exact⟨⟨_,(⟨HL4.o,HL4.o.size,by simp⟩:Kept wz.heap.size wz wz.heap.size [] v4),trivial⟩,rfl⟩
  clear hK K
  repeat (first|(go_big_quiet_want;apply quiet_load_bx _ rfl rfl qb0;(focus(simp[go_sem];rfl));go_big_quiet_on)|go_big_quiet_step (fail))
  refine wpQuiet_nil ?_
  repeat (first|(go_big_quiet_want;apply quiet_load_bx _ rfl rfl qb0;(focus(simp[go_sem];rfl));go_big_quiet_on)|go_big_quiet_step (fail))
  refine wpQuiet_nil ?_
  refine⟨fun K hK0=> ?_,fun K hK0=> ?_,trivial⟩
  ·skip
   have hK:=Hd hK0;clear hK0;go_wp2_with fail
   with_reducible refine(rresetv x zn _).mono ?_
   rintro e v48 ⟨rfl,hb⟩;have HL48:Hid (Below wz.heap.size wz v48):=Hd (below_via HL4.o hb);clear hb;go_wp2_with fail
   first|refine⟨rfl,hK.o _ _ ?_⟩|refine hK.o _ _ ?_
   clear hK K
   refine⟨fun K hK0=> ?_,trivial⟩
   have hK:=Hd hK0;clear hK0;go_wp2_with fail
   obtain⟨v489,hw7⟩:∃W,W=v48.alloc (.cells #[.int .i64 0,.int .i64 0,.int .i64 0,.int .i64 0,.int .i64 0,.int .i64 0,.int .i64 0,.int .i64 0,.int .i64 0,.bool false,.bool false,.bool false] 47):=⟨_,rfl⟩
   rw[<-hw7];have hb:Below v48.heap.size v48 v489:=by rw[hw7];exact(Below.refl _ _).alloc (Nat.le_refl _) _
   obtain⟨nT,hnT⟩:∃n,n=v48.heap.size:=⟨_,rfl⟩
   rw[<-hnT];have hnl:wz.heap.size<=nT:=by have h1:=HL48.o.size;omega
   have HNT:=Hd hnl;have HT:Hid (Ro v489 nT (oc zob).toArray 47):=Hd (by rw[hw7,hnT];exact Ro.new _ _ _);have HL489:Hid (Below wz.heap.size wz v489):=Hd (below_via HL48.o hb);clear hw7 hb hnT hnl
   first|refine⟨rfl,?u,hK.o _ _ ?_⟩|refine⟨?u,hK.o _ _ ?_⟩
   case u=>exact⟨⟨_,(⟨HL489.o,HL489.o.size,by simp⟩:Kept wz.heap.size wz wz.heap.size [] v489),trivial⟩,rfl⟩
   clear hK K
   refine⟨fun K hK0=> ?_,trivial⟩
   have hK:=Hd hK0;clear hK0;go_wp2_with (refine wpList_store_o rfl (rsO x zn) _ _ rfl rfl rfl HT.o rfl ?_)
   intro w9 hw9;have hon:Onl [nT] v489 w9:=by rw[hw9.out];exact Onl.setRow (Onl.refl _ _) (.inl (by simp)) _
   have HT9:Hid (w9.heap[nT]? =some (.cells (oc (rsO x zn)).toArray 47 (0,0))):=Hd (by rw[hw9.out];exact setRow_heap _ _ _ _ 47 _ HT.o);have hb9:Below wz.heap.size wz w9:=belowOnl HL489.o hon (by simp only[List.mem_singleton,forall_eq];exact HNT.o) HL489.o.size;have HB9:Hid (Below w.heap.size w w9):=Hd (below_via HB.o hb9);have HXb9:=Hd (HXb.o.below hb9);have HXz9:=Hd (HXz.o.below hb9);have HC9:Hid (wz.heap.size<=w9.heap.size):=Hd hb9.size;clear hw9 hon hb9 HT
   first|refine⟨rfl,hK.o _ _ ?_⟩|refine hK.o _ _ ?_
   clear hK K;clear _ne ra rd0 rd1 rd2 rd3 rd4 rd5 rd6 rd7 rd8 rd9 rd10 rd11
   go_upto_region 2 with fail
   refine rg28_2 (w0:=w9) (B:=w9.heap.size) (n:=w9.heap.size) (L:=[]) (by kernel_rfl) rfl (by kernel_rfl) (.t ⟨by go_grown,by go_size,(by simp[go_sem]<;>omega)⟩) (fun w71 K_w71 E_w71 F_w71=> ?_);have _ne:Nonempty (KX (w9.heap.size) w9 (w9.heap.size) [] (fun _=>True)):=⟨⟨_,K_w71,E_w71⟩⟩;have qb0:∀W',(∃s':KX (w9.heap.size) w9 (w9.heap.size) [] (fun _=>True),W' =s'.val)->Bx W' (w.heap.size) s (B):=by rintro _ ⟨s',rfl⟩;exact HXb9.o.below s'.kept.below
   have qo0:∀W',(∃s':KX (w9.heap.size) w9 (w9.heap.size) [] (fun _=>True),W' =s'.val)->W'.heap[nT]? =some (.cells (oc (rsO x zn)).toArray 47 (0,0)):=by rintro _ ⟨s',rfl⟩;exact Ro.below HT9.o s'.kept.below
   repeat (first|(go_big_quiet_want;(first|apply quiet_load_bx _ rfl rfl qb0|apply quiet_load_o _ _ rfl rfl qo0);(focus(simp[go_sem];rfl));go_big_quiet_on)|go_big_quiet_step (fail))
   refine wpQuiet_nil ?_
   repeat (first|(go_big_quiet_want;(first|apply quiet_load_bx _ rfl rfl qb0|apply quiet_load_o _ _ rfl rfl qo0);(focus(simp[go_sem];rfl));go_big_quiet_on)|go_big_quiet_step (fail))
   refine wpQuiet_nil ?_;have KH_w71:=Hd K_w71;have hw_w71:=K_w71.below;have hz_w71:=K_w71.size;clear K_w71;clear E_w71 F_w71
   refine⟨fun K hK0=> ?_,trivial⟩
   have hK:=Hd hK0;clear hK0;go_wp2_with fail
   with_reducible refine(rout s B x.id _ (HR.o.below (below_via HB9.o KH_w71.o.below)) HSM.o HTL.o).mono ?_
   rintro e wa ⟨sa,rfl,hoa,hb⟩;have HLa:Hid (Below w9.heap.size w9 wa):=Hd (below_via KH_w71.o.below hb);have HOA:=Hd hoa;have HSa:Hid (w9.heap.size<=w71.heap.size):=Hd KH_w71.o.size;clear hoa hb;go_wp2_with fail
   first|refine⟨rfl,?u,hK.o _ _ ?_⟩|refine⟨?u,hK.o _ _ ?_⟩
   case u=>exact⟨⟨_,(⟨HLa.o,HLa.o.size,by simp⟩:Kept w9.heap.size w9 w9.heap.size [] wa),trivial⟩,rfl⟩
   clear hK K
   refine⟨fun K hK0=> ?_,trivial⟩
   have hK:=Hd hK0;clear hK0;go_wp2_with fail
   with_reducible refine(rsetm sa B x k zn _ HOA.o.rd (out_sm HSM.o _) (out_tl HTL.o _) HKO.o HFO.o).mono ?_
   rintro e wb ⟨sb,rfl,hob,hb⟩;have HSAB:Hid (wa.heap.size<=wb.heap.size):=Hd hb.size;have HLb:Hid (Below w9.heap.size w9 wb):=Hd (below_via HLa.o hb);have HOB:Hid (BdO wa.heap.size wb.heap.size wb sb (moB B k x zn)):=Hd hob;clear hob hb;go_wp2_with fail
   first|refine⟨rfl,?u,hK.o _ _ ?_⟩|refine⟨?u,hK.o _ _ ?_⟩
   case u=>exact⟨⟨_,(⟨HLb.o,HLb.o.size,by simp⟩:Kept w9.heap.size w9 w9.heap.size [] wb),trivial⟩,rfl⟩
   clear hK K
   refine⟨fun K hK0=> ?_,trivial⟩
   have hK:=Hd hK0;clear hK0;go_wp2_with fail
   have HSab:Hid (wa.heap.size<=wb.heap.size):=Hd (by exact HSAB.o);with_reducible refine(HPUT.o.put sb (moB B k x zn) (rsO x zn) p wa.heap.size wb.heap.size _ HOB.o HSab.o (Nat.le_refl _) HSM2.o HPP.o HOW2.o).mono ?_
   rintro e wc ⟨sc,rfl,hoc,hb⟩;have HLc:Hid (Below w9.heap.size w9 wc):=Hd (below_via HLb.o hb);have HOC:Hid (BdO wa.heap.size wc.heap.size wc sc (mvB B k x p zn)):=Hd hoc;clear hoc hb;go_wp2_with fail
   first|refine⟨rfl,hK.o _ _ ?_⟩|refine hK.o _ _ ?_
   clear hK K
   refine⟨fun K hK0=> ?_,trivial⟩
   have hK:=Hd hK0;clear hK0;replace HB9:=Hd (below_via HB9.o HLc.o);replace HXz9:=Hd (HXz9.o.below HLc.o);go_wp2_with (refine wpList_store_bh (s:=sc) (B:=mvB B k x p zn) rfl _ _ rfl rfl rfl HXz9.o rfl ?_)
   intro wd hwd;have hg9:Bx wd (w.heap.size+1) sc (mvB B k x p zn):=by rw[hwd.out];exact Bx.row HXz9.o _ _
   have ho9:Onl [w.heap.size+1] wc wd:=by rw[hwd.out];exact Onl.setRow (Onl.refl _ _) (.inl (by simp)) _
   have hb9:Below w.heap.size w wd:=belowOnl HB9.o ho9 (by simp) HB9.o.size;have HG9:=Hd hg9;have HPOST:Hid (CpA w (mvB B k x p zn) (.returned (bv sc (mvB B k x p zn))) wd):=Hd ⟨_,rfl,(HOC.o.onlB ho9 HXz9.o).mono (by have h1:=HLa.o.size;have h2:=HC9.o;have h3:=HC1.o;omega) ho9.size,hb9⟩;clear hwd hg9 ho9 hb9
   first|refine⟨rfl,hK.o _ _ ?_⟩|refine hK.o _ _ ?_
   clear hK K;clear _ne qb0 qo0;go_wp2_with fail
   exact bodyPost_ret (v:=bv sc (mvB B k x p zn)) (results_b0 Tryz.results28 _ _ HG9.o rfl) rfl HPOST.o
  skip
  have hK:=Hd hK0;clear hK0;go_wp2_with fail
  obtain⟨v49,hw7⟩:∃W,W=v4.alloc (.cells #[.int .i64 0,.int .i64 0,.int .i64 0,.int .i64 0,.int .i64 0,.int .i64 0,.int .i64 0,.int .i64 0,.int .i64 0,.bool false,.bool false,.bool false] 47):=⟨_,rfl⟩
  rw[<-hw7];have hb:Below v4.heap.size v4 v49:=by rw[hw7];exact(Below.refl _ _).alloc (Nat.le_refl _) _
  obtain⟨nT,hnT⟩:∃n,n=v4.heap.size:=⟨_,rfl⟩
  rw[<-hnT];have hnl:wz.heap.size<=nT:=by have h1:=HL4.o.size;omega
  have HNT:=Hd hnl;have HT:Hid (Ro v49 nT (oc zob).toArray 47):=Hd (by rw[hw7,hnT];exact Ro.new _ _ _);have HL49:Hid (Below wz.heap.size wz v49):=Hd (below_via HL4.o hb);clear hw7 hb hnT hnl
  first|refine⟨rfl,?u,hK.o _ _ ?_⟩|refine⟨?u,hK.o _ _ ?_⟩
  case u=>exact⟨⟨_,(⟨HL49.o,HL49.o.size,by simp⟩:Kept wz.heap.size wz wz.heap.size [] v49),trivial⟩,rfl⟩
  clear hK K
  refine⟨fun K hK0=> ?_,trivial⟩
  have hK:=Hd hK0;clear hK0;go_wp2_with fail
  with_reducible refine(rresetv x zn _).mono ?_
  rintro e v498 ⟨rfl,hb⟩;have HL498:Hid (Below wz.heap.size wz v498):=Hd (below_via HL49.o hb);replace HT:=Hd (Ro.below HT.o hb);clear hb;go_wp2_with fail
  first|refine⟨rfl,hK.o _ _ ?_⟩|refine hK.o _ _ ?_
  clear hK K
  refine⟨fun K hK0=> ?_,trivial⟩
  have hK:=Hd hK0;clear hK0;go_wp2_with (refine wpList_store_o rfl (rsO x zn) _ _ rfl rfl rfl HT.o rfl ?_)
  intro w9 hw9;have hon:Onl [nT] v498 w9:=by rw[hw9.out];exact Onl.setRow (Onl.refl _ _) (.inl (by simp)) _
  have HT9:Hid (w9.heap[nT]? =some (.cells (oc (rsO x zn)).toArray 47 (0,0))):=Hd (by rw[hw9.out];exact setRow_heap _ _ _ _ 47 _ HT.o);have hb9:Below wz.heap.size wz w9:=belowOnl HL498.o hon (by simp only[List.mem_singleton,forall_eq];exact HNT.o) HL498.o.size;have HB9:Hid (Below w.heap.size w w9):=Hd (below_via HB.o hb9);have HXb9:=Hd (HXb.o.below hb9);have HXz9:=Hd (HXz.o.below hb9);have HC9:Hid (wz.heap.size<=w9.heap.size):=Hd hb9.size;clear hw9 hon hb9 HT
  first|refine⟨rfl,hK.o _ _ ?_⟩|refine hK.o _ _ ?_
  clear hK K;clear _ne ra rd0 rd1 rd2 rd3 rd4 rd5 rd6 rd7 rd8 rd9 rd10 rd11
  go_upto_region 2 with fail
  refine rg28_2 (w0:=w9) (B:=w9.heap.size) (n:=w9.heap.size) (L:=[]) (by kernel_rfl) rfl (by kernel_rfl) (.t ⟨by go_grown,by go_size,(by simp[go_sem]<;>omega)⟩) (fun w71 K_w71 E_w71 F_w71=> ?_);have _ne:Nonempty (KX (w9.heap.size) w9 (w9.heap.size) [] (fun _=>True)):=⟨⟨_,K_w71,E_w71⟩⟩;have qb0:∀W',(∃s':KX (w9.heap.size) w9 (w9.heap.size) [] (fun _=>True),W' =s'.val)->Bx W' (w.heap.size) s (B):=by rintro _ ⟨s',rfl⟩;exact HXb9.o.below s'.kept.below
  have qo0:∀W',(∃s':KX (w9.heap.size) w9 (w9.heap.size) [] (fun _=>True),W' =s'.val)->W'.heap[nT]? =some (.cells (oc (rsO x zn)).toArray 47 (0,0)):=by rintro _ ⟨s',rfl⟩;exact Ro.below HT9.o s'.kept.below
  repeat (first|(go_big_quiet_want;(first|apply quiet_load_bx _ rfl rfl qb0|apply quiet_load_o _ _ rfl rfl qo0);(focus(simp[go_sem];rfl));go_big_quiet_on)|go_big_quiet_step (fail))
  refine wpQuiet_nil ?_
  repeat (first|(go_big_quiet_want;(first|apply quiet_load_bx _ rfl rfl qb0|apply quiet_load_o _ _ rfl rfl qo0);(focus(simp[go_sem];rfl));go_big_quiet_on)|go_big_quiet_step (fail))
  refine wpQuiet_nil ?_;have KH_w71:=Hd K_w71;have hw_w71:=K_w71.below;have hz_w71:=K_w71.size;clear K_w71;clear E_w71 F_w71
  refine⟨fun K hK0=> ?_,trivial⟩
  have hK:=Hd hK0;clear hK0;go_wp2_with fail
  with_reducible refine(rout s B x.id _ (HR.o.below (below_via HB9.o KH_w71.o.below)) HSM.o HTL.o).mono ?_
  rintro e wa ⟨sa,rfl,hoa,hb⟩;have HLa:Hid (Below w9.heap.size w9 wa):=Hd (below_via KH_w71.o.below hb);have HOA:=Hd hoa;have HSa:Hid (w9.heap.size<=w71.heap.size):=Hd KH_w71.o.size;clear hoa hb;go_wp2_with fail
  first|refine⟨rfl,?u,hK.o _ _ ?_⟩|refine⟨?u,hK.o _ _ ?_⟩
  case u=>exact⟨⟨_,(⟨HLa.o,HLa.o.size,by simp⟩:Kept w9.heap.size w9 w9.heap.size [] wa),trivial⟩,rfl⟩
  clear hK K
  refine⟨fun K hK0=> ?_,trivial⟩
  have hK:=Hd hK0;clear hK0;go_wp2_with fail
  with_reducible refine(rsetm sa B x k zn _ HOA.o.rd (out_sm HSM.o _) (out_tl HTL.o _) HKO.o HFO.o).mono ?_
  rintro e wb ⟨sb,rfl,hob,hb⟩;have HSAB:Hid (wa.heap.size<=wb.heap.size):=Hd hb.size;have HLb:Hid (Below w9.heap.size w9 wb):=Hd (below_via HLa.o hb);have HOB:Hid (BdO wa.heap.size wb.heap.size wb sb (moB B k x zn)):=Hd hob;clear hob hb;go_wp2_with fail
  first|refine⟨rfl,?u,hK.o _ _ ?_⟩|refine⟨?u,hK.o _ _ ?_⟩
  case u=>exact⟨⟨_,(⟨HLb.o,HLb.o.size,by simp⟩:Kept w9.heap.size w9 w9.heap.size [] wb),trivial⟩,rfl⟩
  clear hK K
  refine⟨fun K hK0=> ?_,trivial⟩
  have hK:=Hd hK0;clear hK0;go_wp2_with fail
  have HSab:Hid (wa.heap.size<=wb.heap.size):=Hd (by exact HSAB.o);with_reducible refine(HPUT.o.put sb (moB B k x zn) (rsO x zn) p wa.heap.size wb.heap.size _ HOB.o HSab.o (Nat.le_refl _) HSM2.o HPP.o HOW2.o).mono ?_
  rintro e wc ⟨sc,rfl,hoc,hb⟩;have HLc:Hid (Below w9.heap.size w9 wc):=Hd (below_via HLb.o hb);have HOC:Hid (BdO wa.heap.size wc.heap.size wc sc (mvB B k x p zn)):=Hd hoc;clear hoc hb;go_wp2_with fail
  first|refine⟨rfl,hK.o _ _ ?_⟩|refine hK.o _ _ ?_
  clear hK K
  refine⟨fun K hK0=> ?_,trivial⟩
  have hK:=Hd hK0;clear hK0;replace HB9:=Hd (below_via HB9.o HLc.o);replace HXz9:=Hd (HXz9.o.below HLc.o);go_wp2_with (refine wpList_store_bh (s:=sc) (B:=mvB B k x p zn) rfl _ _ rfl rfl rfl HXz9.o rfl ?_)
  intro wd hwd;have hg9:Bx wd (w.heap.size+1) sc (mvB B k x p zn):=by rw[hwd.out];exact Bx.row HXz9.o _ _
  have ho9:Onl [w.heap.size+1] wc wd:=by rw[hwd.out];exact Onl.setRow (Onl.refl _ _) (.inl (by simp)) _
  have hb9:Below w.heap.size w wd:=belowOnl HB9.o ho9 (by simp) HB9.o.size;have HG9:=Hd hg9;have HPOST:Hid (CpA w (mvB B k x p zn) (.returned (bv sc (mvB B k x p zn))) wd):=Hd ⟨_,rfl,(HOC.o.onlB ho9 HXz9.o).mono (by have h1:=HLa.o.size;have h2:=HC9.o;have h3:=HC1.o;omega) ho9.size,hb9⟩;clear hwd hg9 ho9 hb9
  first|refine⟨rfl,hK.o _ _ ?_⟩|refine hK.o _ _ ?_
  clear hK K;clear _ne qb0 qo0;go_wp2_with fail
  exact bodyPost_ret (v:=bv sc (mvB B k x p zn)) (results_b0 Tryz.results28 _ _ HG9.o rfl) rfl HPOST.o
 skip
 have hK:=Hd hK0;clear hK0;go_wp2_with fail
 obtain⟨v9,hw7⟩:∃W,W=w61.alloc (.cells #[.int .i64 0,.int .i64 0,.int .i64 0,.int .i64 0,.int .i64 0,.int .i64 0,.int .i64 0,.int .i64 0,.int .i64 0,.bool false,.bool false,.bool false] 47):=⟨_,rfl⟩
 rw[<-hw7];have hb:Below w61.heap.size w61 v9:=by rw[hw7];exact(Below.refl _ _).alloc (Nat.le_refl _) _
 obtain⟨nT,hnT⟩:∃n,n=w61.heap.size:=⟨_,rfl⟩
 rw[<-hnT];have hnl:wz.heap.size<=nT:=by have h1:=KH_w61.o.below.size;omega
 have HNT:=Hd hnl;have HT:Hid (Ro v9 nT (oc zob).toArray 47):=Hd (by rw[hw7,hnT];exact Ro.new _ _ _);have HL9:Hid (Below wz.heap.size wz v9):=Hd (below_via KH_w61.o.below hb);clear hw7 hb hnT hnl
 first|refine⟨rfl,?u,hK.o _ _ ?_⟩|refine⟨?u,hK.o _ _ ?_⟩
 case u=>exact⟨⟨_,(⟨HL9.o,HL9.o.size,by simp⟩:Kept wz.heap.size wz wz.heap.size [] v9),trivial⟩,rfl⟩
 clear hK K
 refine⟨fun K hK0=> ?_,trivial⟩
 have hK:=Hd hK0;clear hK0;go_wp2_with fail
 with_reducible refine(rindex s B x.id _ (HR.o.below (below_via HB.o HL9.o))).mono ?_
 rintro e v94 ⟨⟨r,rfl,hr⟩,hb⟩;have HL94:Hid (Below wz.heap.size wz v94):=Hd (below_via HL9.o hb);replace HT:=Hd (Ro.below HT.o hb)
 obtain rfl:r=k:=by
  rcases hr with⟨_,h1⟩|⟨i,q,rfl,h2,h3,h4⟩
  ·exact absurd rfl (h1 k x HKX.o)
  rcases Nat.lt_trichotomy i k with h5|h5|h5
  ·exact absurd h3 (HF.o i q h5 h2)
  ·rw[h5]
  exact absurd rfl (h4 k x h5 HKX.o)
 clear hr hb;go_wp2_with fail
 first|refine⟨rfl,?u,hK.o _ _ ?_⟩|refine⟨?u,hK.o _ _ ?_⟩
 case u=>exact⟨⟨_,(⟨HL94.o,HL94.o.size,by simp⟩:Kept wz.heap.size wz wz.heap.size [] v94),trivial⟩,rfl⟩
 clear hK K
 repeat (go_big_quiet_step (fail))
 refine wpQuiet_nil ?_
 repeat (go_big_quiet_step (fail))
 refine wpQuiet_nil ?_
 refine⟨fun K hK0=> ?_,trivial⟩
 have hK:=Hd hK0;clear hK0;go_wp2_with fail
 with_reducible refine(rresetv x zn _).mono ?_
 rintro e v948 ⟨rfl,hb⟩;have HL948:Hid (Below wz.heap.size wz v948):=Hd (below_via HL94.o hb);replace HT:=Hd (Ro.below HT.o hb);clear hb;go_wp2_with fail
 first|refine⟨rfl,hK.o _ _ ?_⟩|refine hK.o _ _ ?_
 clear hK K
 refine⟨fun K hK0=> ?_,trivial⟩
 have hK:=Hd hK0;clear hK0;go_wp2_with (refine wpList_store_o rfl (rsO x zn) _ _ rfl rfl rfl HT.o rfl ?_)
 intro w9 hw9;have hon:Onl [nT] v948 w9:=by rw[hw9.out];exact Onl.setRow (Onl.refl _ _) (.inl (by simp)) _
 have HT9:Hid (w9.heap[nT]? =some (.cells (oc (rsO x zn)).toArray 47 (0,0))):=Hd (by rw[hw9.out];exact setRow_heap _ _ _ _ 47 _ HT.o);have hb9:Below wz.heap.size wz w9:=belowOnl HL948.o hon (by simp only[List.mem_singleton,forall_eq];exact HNT.o) HL948.o.size;have HB9:Hid (Below w.heap.size w w9):=Hd (below_via HB.o hb9);have HXb9:=Hd (HXb.o.below hb9);have HXz9:=Hd (HXz.o.below hb9);have HC9:Hid (wz.heap.size<=w9.heap.size):=Hd hb9.size;clear hw9 hon hb9 HT
 first|refine⟨rfl,hK.o _ _ ?_⟩|refine hK.o _ _ ?_
 clear hK K;clear _ne ra rd0 rd1 rd2 rd3 rd4 rd5 rd6 rd7 rd8 rd9 rd10 rd11
 go_upto_region 2 with fail
 refine rg28_2 (w0:=w9) (B:=w9.heap.size) (n:=w9.heap.size) (L:=[]) (by kernel_rfl) rfl (by kernel_rfl) (.t ⟨by go_grown,by go_size,(by simp[go_sem]<;>omega)⟩) (fun w71 K_w71 E_w71 F_w71=> ?_);have _ne:Nonempty (KX (w9.heap.size) w9 (w9.heap.size) [] (fun _=>True)):=⟨⟨_,K_w71,E_w71⟩⟩;have qb0:∀W',(∃s':KX (w9.heap.size) w9 (w9.heap.size) [] (fun _=>True),W' =s'.val)->Bx W' (w.heap.size) s (B):=by rintro _ ⟨s',rfl⟩;exact HXb9.o.below s'.kept.below
 have qo0:∀W',(∃s':KX (w9.heap.size) w9 (w9.heap.size) [] (fun _=>True),W' =s'.val)->W'.heap[nT]? =some (.cells (oc (rsO x zn)).toArray 47 (0,0)):=by rintro _ ⟨s',rfl⟩;exact Ro.below HT9.o s'.kept.below
 repeat (first|(go_big_quiet_want;(first|apply quiet_load_bx _ rfl rfl qb0|apply quiet_load_o _ _ rfl rfl qo0);(focus(simp[go_sem];rfl));go_big_quiet_on)|go_big_quiet_step (fail))
 refine wpQuiet_nil ?_
 repeat (first|(go_big_quiet_want;(first|apply quiet_load_bx _ rfl rfl qb0|apply quiet_load_o _ _ rfl rfl qo0);(focus(simp[go_sem];rfl));go_big_quiet_on)|go_big_quiet_step (fail))
 refine wpQuiet_nil ?_;have KH_w71:=Hd K_w71;have hw_w71:=K_w71.below;have hz_w71:=K_w71.size;clear K_w71;clear E_w71 F_w71
 refine⟨fun K hK0=> ?_,trivial⟩
 have hK:=Hd hK0;clear hK0;go_wp2_with fail
 with_reducible refine(rout s B x.id _ (HR.o.below (below_via HB9.o KH_w71.o.below)) HSM.o HTL.o).mono ?_
 rintro e wa ⟨sa,rfl,hoa,hb⟩;have HLa:Hid (Below w9.heap.size w9 wa):=Hd (below_via KH_w71.o.below hb);have HOA:=Hd hoa;have HSa:Hid (w9.heap.size<=w71.heap.size):=Hd KH_w71.o.size;clear hoa hb;go_wp2_with fail
 first|refine⟨rfl,?u,hK.o _ _ ?_⟩|refine⟨?u,hK.o _ _ ?_⟩
 case u=>exact⟨⟨_,(⟨HLa.o,HLa.o.size,by simp⟩:Kept w9.heap.size w9 w9.heap.size [] wa),trivial⟩,rfl⟩
 clear hK K
 refine⟨fun K hK0=> ?_,trivial⟩
 have hK:=Hd hK0;clear hK0;go_wp2_with fail
 with_reducible refine(rsetm sa B x k zn _ HOA.o.rd (out_sm HSM.o _) (out_tl HTL.o _) HKO.o HFO.o).mono ?_
 rintro e wb ⟨sb,rfl,hob,hb⟩;have HSAB:Hid (wa.heap.size<=wb.heap.size):=Hd hb.size;have HLb:Hid (Below w9.heap.size w9 wb):=Hd (below_via HLa.o hb);have HOB:Hid (BdO wa.heap.size wb.heap.size wb sb (moB B k x zn)):=Hd hob;clear hob hb;go_wp2_with fail
 first|refine⟨rfl,?u,hK.o _ _ ?_⟩|refine⟨?u,hK.o _ _ ?_⟩
 case u=>exact⟨⟨_,(⟨HLb.o,HLb.o.size,by simp⟩:Kept w9.heap.size w9 w9.heap.size [] wb),trivial⟩,rfl⟩
 clear hK K
 refine⟨fun K hK0=> ?_,trivial⟩
 have hK:=Hd hK0;clear hK0;go_wp2_with fail
 have HSab:Hid (wa.heap.size<=wb.heap.size):=Hd (by exact HSAB.o);with_reducible refine(HPUT.o.put sb (moB B k x zn) (rsO x zn) p wa.heap.size wb.heap.size _ HOB.o HSab.o (Nat.le_refl _) HSM2.o HPP.o HOW2.o).mono ?_
 rintro e wc ⟨sc,rfl,hoc,hb⟩;have HLc:Hid (Below w9.heap.size w9 wc):=Hd (below_via HLb.o hb);have HOC:Hid (BdO wa.heap.size wc.heap.size wc sc (mvB B k x p zn)):=Hd hoc;clear hoc hb;go_wp2_with fail
 first|refine⟨rfl,hK.o _ _ ?_⟩|refine hK.o _ _ ?_
 clear hK K
 refine⟨fun K hK0=> ?_,trivial⟩
 have hK:=Hd hK0;clear hK0;replace HB9:=Hd (below_via HB9.o HLc.o);replace HXz9:=Hd (HXz9.o.below HLc.o);go_wp2_with (refine wpList_store_bh (s:=sc) (B:=mvB B k x p zn) rfl _ _ rfl rfl rfl HXz9.o rfl ?_)
 intro wd hwd;have hg9:Bx wd (w.heap.size+1) sc (mvB B k x p zn):=by rw[hwd.out];exact Bx.row HXz9.o _ _
 have ho9:Onl [w.heap.size+1] wc wd:=by rw[hwd.out];exact Onl.setRow (Onl.refl _ _) (.inl (by simp)) _
 have hb9:Below w.heap.size w wd:=belowOnl HB9.o ho9 (by simp) HB9.o.size;have HG9:=Hd hg9;have HPOST:Hid (CpA w (mvB B k x p zn) (.returned (bv sc (mvB B k x p zn))) wd):=Hd ⟨_,rfl,(HOC.o.onlB ho9 HXz9.o).mono (by have h1:=HLa.o.size;have h2:=HC9.o;have h3:=HC1.o;omega) ho9.size,hb9⟩;clear hwd hg9 ho9 hb9
 first|refine⟨rfl,hK.o _ _ ?_⟩|refine hK.o _ _ ?_
 clear hK K;clear _ne qb0 qo0;go_wp2_with fail
 exact bodyPost_ret (v:=bv sc (mvB B k x p zn)) (results_b0 Tryz.results28 _ _ HG9.o rfl) rfl HPOST.o
theorem rmove1(s:Bs)(B:Bd)(k:Nat)(x:Ob)(p:Nat)(w:World)(h:BdR w s B)(hsm:B.Sm)(htl:B.Tl)(hk:B.ob[k]? =some x)(hf:∀(j:Nat) (q:Ob),j<k->B.ob[j]? =some q->q.id≠x.id)(hp:p<2)(how:x.ow=(p:Nat)):Calls Tryz.prog 28 #[bv s B,.int .i64 x.id,.int .i64 1] w (CpA w (mvB B k x p 1)):=rmoveZ 1 (fun s B x p lo hi w=>rput1 s B x p lo hi w) s B k x p w h hsm htl hk hf hp how
theorem rmove2(s:Bs)(B:Bd)(k:Nat)(x:Ob)(p:Nat)(w:World)(h:BdR w s B)(hsm:B.Sm)(htl:B.Tl)(hk:B.ob[k]? =some x)(hf:∀(j:Nat) (q:Ob),j<k->B.ob[j]? =some q->q.id≠x.id)(hp:p<2)(how:x.ow=(p:Nat)):Calls Tryz.prog 28 #[bv s B,.int .i64 x.id,.int .i64 2] w (CpA w (mvB B k x p 2)):=rmoveZ 2 (fun s B x p lo hi w=>rput2 s B x p lo hi w) s B k x p w h hsm htl hk hf hp how
theorem rmove3(s:Bs)(B:Bd)(k:Nat)(x:Ob)(p:Nat)(w:World)(h:BdR w s B)(hsm:B.Sm)(htl:B.Tl)(hk:B.ob[k]? =some x)(hf:∀(j:Nat) (q:Ob),j<k->B.ob[j]? =some q->q.id≠x.id)(hp:p<2)(how:x.ow=(p:Nat)):Calls Tryz.prog 28 #[bv s B,.int .i64 x.id,.int .i64 3] w (CpA w (mvB B k x p 3)):=rmoveZ 3 (fun s B x p lo hi w=>rput3 s B x p lo hi w) s B k x p w h hsm htl hk hf hp how
end Go.Proofs.YtpbepnpnpopmfaaGreat
