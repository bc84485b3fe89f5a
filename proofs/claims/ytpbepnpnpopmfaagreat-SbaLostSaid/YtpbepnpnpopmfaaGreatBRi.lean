/- Attackers and blocks, by the reference. -/
import Derived.Test.YtpbepnpnpopmfaaGreatBRh
import Derived.Test.YtpbepnpnpopmfaaGreatBOw
import Derived.Deep.DeepCutAuto
import Derived.LoopTactic
import Derived.Deep.MidRow
open Go.RowKit Go.Proofs.YtpbepnpnpopmfaaGreat
set_option maxRecDepth 100000
set_option maxHeartbeats 4000000
namespace Go.Proofs.YtpbepnpnpopmfaaGreat
open Plain
set_option linter.unusedVariables false
set_option linter.unusedSimpArgs false

theorem rg26_4{P:Program}{B n:Nat}{w0:World}{L:List (Nat×Nat×Value)}{E F:World->Prop}{id:Nat}{Q:Exit->Act->World->Prop}{a:Act}{w:World}{A:Array Oper}{o0 o1 o2 o3 o4 o5 o6 o7 o8 o9 o10 o11 o12 o13 o14 o15 o16 o17 o18 o19 o20 o21 o22 o23:Oper}(hm:P.follows .mixedOrders=true)(hA:A=[o0,o1,o2,o3,o4,o5,o6,o7,o8,o9,o10,o11,o12,o13,o14,o15,o16,o17,o18,o19,o20,o21,o22,o23].toArray)(hB:regOk A [1,3,6,11,15,17,20] [0,2,4,5,8,9,10,12,13,14,16,18,19,22,23] (.fs [0,2,4] (.rs [1,3] (.fs [5] (.rs [6] (.alt 7 (.fs [8,9,10,12,16,18] (.rs [11] (.fs [13,14] (.rs [15,17] (.fs [19] (.rs [20] (.altc 21 (.fs [22,23] .done) .stop))))))) .stop)))))=true)(c:RC B w0 n L E F w)
  (h:∀wk,Kept B w0 n L wk->E wk->F wk->wpQuiet P A (fun _=>True) (fun a0=>wpQuiet P A (fun w' =>∃s:KX B w0 n L E,w' =s.val) (fun a1=>wpQuiet P A (fun _=>True) (fun a2=>wpQuiet P A (fun w' =>∃s:KX B w0 n L E,w' =s.val) (fun a3=>((∀K4:Act->World->Prop,(∀a4 w4,wpQuiet P A (fun _=>True) (fun a5=>wpQuiet P A (fun w' =>∃s:KX B w0 n L E,w' =s.val) (fun a6=>wpQuiet P A (fun _=>True) (fun a7=>wpQuiet P A (fun w' =>∃s:KX B w0 n L E,w' =s.val) (fun a8=>wpQuiet P A (fun _=>True) (fun a9=>wpQuiet P A (fun w' =>∃s:KX B w0 n L E,w' =s.val) (fun a10=>((∀K11:Act->World->Prop,(∀a11 w11,wpQuiet P A (fun _=>True) (fun a12=>Q .normal a12 w11) [o22,o23] a11->K11 a11 w11)->wpList P A (fun e a11 w11=>e= .normal/\K11 a11 w11) [o21] a10 w4)/\True)) [o20] a9) [o19] a8) [o15,o17] a7) [o13,o14] a6) [o11] a5) [o8,o9,o10,o12,o16,o18] a4->K4 a4 w4)->wpList P A (fun e a4 w4=>e= .normal/\(∃s:KX B w0 n L E,w4=s.val)/\K4 a4 w4) [o7] a3 wk)/\True)) [o6] a2) [o5] a1) [o1,o3] a0) [o0,o2,o4] a):(Code.region id A true).wp P Q a w:=by
 subst hA;exact wp_reg _ _ _ hm hB c (fun wk k e f=>have g:=h wk k e f;Scr.of_fs _ _ rfl g fun _ g=>Scr.of_rs _ _ rfl g fun _ g=>Scr.of_fs _ _ rfl g fun _ g=>Scr.of_rs _ _ rfl g fun _ g=>(Scr.of_alt rfl (g.1 _ fun _ _ g=>g) (fun _ _ g=>Scr.of_fs _ _ rfl g fun _ g=>Scr.of_rs _ _ rfl g fun _ g=>Scr.of_fs _ _ rfl g fun _ g=>Scr.of_rs _ _ rfl g fun _ g=>Scr.of_fs _ _ rfl g fun _ g=>Scr.of_rs _ _ rfl g fun _ g=>(Scr.of_altc rfl (g.1 _ fun _ _ g=>g) (fun _ _ g=>Scr.of_fs _ _ rfl g fun _ g=>g) trivial)) trivial))
theorem rg26_10{P:Program}{B n:Nat}{w0:World}{L:List (Nat×Nat×Value)}{E F:World->Prop}{id:Nat}{Q:Exit->Act->World->Prop}{a:Act}{w:World}{A:Array Oper}{o0 o1 o2 o3 o4 o5 o6 o7 o8 o9 o10 o11 o12 o13 o14 o15 o16 o17 o18:Oper}(hm:P.follows .mixedOrders=true)(hA:A=[o0,o1,o2,o3,o4,o5,o6,o7,o8,o9,o10,o11,o12,o13,o14,o15,o16,o17,o18].toArray)(hB:regOk A [1,3,8,13,15] [0,2,5,6,7,9,10,11,12,14,17,18] (.fs [0,2] (.rs [1,3] (.alt 4 (.fs [5,6,7,10,14] (.rs [8] (.fs [9,11,12] (.rs [13,15] (.altc 16 (.fs [17,18] .done) .stop))))) .stop)))=true)(c:RC B w0 n L E F w)
  (h:∀wk,Kept B w0 n L wk->E wk->F wk->wpQuiet P A (fun _=>True) (fun a0=>wpQuiet P A (fun w' =>∃s:KX B w0 n L E,w' =s.val) (fun a1=>((∀K2:Act->World->Prop,(∀a2 w2,wpQuiet P A (fun _=>True) (fun a3=>wpQuiet P A (fun w' =>∃s:KX B w0 n L E,w' =s.val) (fun a4=>wpQuiet P A (fun _=>True) (fun a5=>wpQuiet P A (fun w' =>∃s:KX B w0 n L E,w' =s.val) (fun a6=>((∀K7:Act->World->Prop,(∀a7 w7,wpQuiet P A (fun _=>True) (fun a8=>Q .normal a8 w7) [o17,o18] a7->K7 a7 w7)->wpList P A (fun e a7 w7=>e= .normal/\K7 a7 w7) [o16] a6 w2)/\True)) [o13,o15] a5) [o9,o11,o12] a4) [o8] a3) [o5,o6,o7,o10,o14] a2->K2 a2 w2)->wpList P A (fun e a2 w2=>e= .normal/\(∃s:KX B w0 n L E,w2=s.val)/\K2 a2 w2) [o4] a1 wk)/\True)) [o1,o3] a0) [o0,o2] a):(Code.region id A true).wp P Q a w:=by
 subst hA;exact wp_reg _ _ _ hm hB c (fun wk k e f=>have g:=h wk k e f;Scr.of_fs _ _ rfl g fun _ g=>Scr.of_rs _ _ rfl g fun _ g=>(Scr.of_alt rfl (g.1 _ fun _ _ g=>g) (fun _ _ g=>Scr.of_fs _ _ rfl g fun _ g=>Scr.of_rs _ _ rfl g fun _ g=>Scr.of_fs _ _ rfl g fun _ g=>Scr.of_rs _ _ rfl g fun _ g=>(Scr.of_altc rfl (g.1 _ fun _ _ g=>g) (fun _ _ g=>Scr.of_fs _ _ rfl g fun _ g=>g) trivial)) trivial))
theorem rg26_15{P:Program}{B n:Nat}{w0:World}{L:List (Nat×Nat×Value)}{E F:World->Prop}{id:Nat}{Q:Exit->Act->World->Prop}{a:Act}{w:World}{A:Array Oper}{o0 o1 o2 o3 o4 o5 o6 o7 o8 o9 o10 o11 o12 o13 o14 o15 o16 o17 o18 o19:Oper}(hm:P.follows .mixedOrders=true)(hA:A=[o0,o1,o2,o3,o4,o5,o6,o7,o8,o9,o10,o11,o12,o13,o14,o15,o16,o17,o18,o19].toArray)(hB:regOk A [1,5,7,11,15,17] [0,2,3,4,6,8,9,10,12,13,14,16,18,19] (.fs [0,2,6] (.rs [1] (.fs [3,4] (.rs [5,7] (.fs [8,9,10,12,16] (.rs [11] (.fs [13,14] (.rs [15,17] (.fs [18,19] .done)))))))))=true)(c:RC B w0 n L E F w)
  (h:∀wk,Kept B w0 n L wk->E wk->F wk->wpQuiet P A (fun _=>True) (fun a0=>wpQuiet P A (fun w' =>∃s:KX B w0 n L E,w' =s.val) (fun a1=>wpQuiet P A (fun _=>True) (fun a2=>wpQuiet P A (fun w' =>∃s:KX B w0 n L E,w' =s.val) (fun a3=>wpQuiet P A (fun _=>True) (fun a4=>wpQuiet P A (fun w' =>∃s:KX B w0 n L E,w' =s.val) (fun a5=>wpQuiet P A (fun _=>True) (fun a6=>wpQuiet P A (fun w' =>∃s:KX B w0 n L E,w' =s.val) (fun a7=>wpQuiet P A (fun _=>True) (fun a8=>Q .normal a8 wk) [o18,o19] a7) [o15,o17] a6) [o13,o14] a5) [o11] a4) [o8,o9,o10,o12,o16] a3) [o5,o7] a2) [o3,o4] a1) [o1] a0) [o0,o2,o6] a):(Code.region id A true).wp P Q a w:=by
 subst hA;exact wp_reg _ _ _ hm hB c (fun wk k e f=>have g:=h wk k e f;Scr.of_fs _ _ rfl g fun _ g=>Scr.of_rs _ _ rfl g fun _ g=>Scr.of_fs _ _ rfl g fun _ g=>Scr.of_rs _ _ rfl g fun _ g=>Scr.of_fs _ _ rfl g fun _ g=>Scr.of_rs _ _ rfl g fun _ g=>Scr.of_fs _ _ rfl g fun _ g=>Scr.of_rs _ _ rfl g fun _ g=>Scr.of_fs _ _ rfl g fun _ g=>g)
def RfA(w:World)(s:Bs)(B:Bd)(i:Value)(wr:World):Prop:=∃k:Nat,k<=B.att.length/\i= .int .i64 k/\Below w.heap.size w wr/\Bx wr w.heap.size s B/\FrA B k
def RfB(w:World)(s:Bs)(B:Bd)(i:Value)(wr:World):Prop:=∃k:Nat,k<=B.bl.length/\i= .int .i64 k/\Below w.heap.size w wr/\Bx wr w.heap.size s B/\FrB B k
def RfK(w:World)(s:Bs)(B:Bd)(n0:Nat)(i:Nat)(x:Bk)(v:Value)(wr:World):Prop:=∃k:Nat,k<=i/\v= .int .i64 k/\Below w.heap.size w wr/\Bx wr w.heap.size s B/\(n0<wr.heap.size/\wr.cell? ⟨n0,0,none⟩=some (.int .i64 x.bl)/\wr.cell? ⟨n0,1,none⟩=some (.int .i64 x.at'))/\∀(j:Nat) (y:Bk),j<k->B.bl[j]? =some y->y.at'≠x.at'/\y.bl≠x.bl
theorem rfights(s:Bs)(B:Bd)(w:World)(h:BdR w s B)(hsm:B.Sm)(hac:0<=B.ac/\B.ac<=1)(hnd:∀p,(B.seat p).fld.Nodup):Calls Tryz.prog 26 #[bv s B] w fun e w' =>(∃r,e= .returned (.bool r)/\(r=true↔Fgt B))/\Below w.heap.size w w':=by
 have HR:=Hd h;have HSM:=Hd hsm
 obtain⟨p,hp⟩:∃p:Nat,B.ac=(p:Nat):=⟨B.ac.toNat,by omega⟩
 have hp2:p<2:=by omega
 have hown:B.own=(B.seat p).fld:=by unfold Bd.own;rw[hp];rfl
 have hoth:B.oth=(B.seat (1-p)).fld:=by unfold Bd.oth;rw[hp,show(1-(p:Int)).toNat=1-p by omega]
 have HNO:Hid (B.own.Nodup):=Hd (by rw[hown];exact hnd _);have HNT:Hid (B.oth.Nodup):=Hd (by rw[hoth];exact hnd _)
 obtain⟨_,aa,ca,hva,hfa⟩:=h.att.form
 obtain⟨_,ab,cb,hvb,hfb⟩:=h.bl.form
 obtain⟨_,oa,oc',hvo,_⟩:=(h.zone p 2).form
 obtain⟨_,ta,tc',hvt,_⟩:=(h.zone (1-p) 2).form
 rename_i hma hmb _ _
 have HRA:Hid (Rw ic 1 w (.slice aa B.att.length ca) B.att):=Hd (by rw[<-hva];exact h.att);have HRO:Hid (Rw ic 1 w (.slice oa B.own.length oc') B.own):=Hd (by rw[hown,show(B.seat p).fld.length=((B.seat p).zs 2).length from rfl,<-hvo];exact h.zone p 2);have HRT:Hid (Rw ic 1 w (.slice ta B.oth.length tc') B.oth):=Hd (by rw[hoth,show(B.seat (1-p)).fld.length=((B.seat (1-p)).zs 2).length from rfl,<-hvt];exact h.zone (1-p) 2);have HC31:Hid (∀W,Bx W w.heap.size s B->W.cell? ⟨w.heap.size,31,none⟩=some (.slice aa B.att.length ca)):=Hd (fun W h=>by rw[h.cell 31,<-hva];rfl);have HC32:Hid (∀W,Bx W w.heap.size s B->W.cell? ⟨w.heap.size,32,none⟩=some (.slice ab B.bl.length cb)):=Hd (fun W h=>by rw[h.cell 32,<-hvb];rfl);have HC34:Hid (∀W,Bx W w.heap.size s B->W.cell? ⟨w.heap.size,34,none⟩=some (.int .i64 (p:Nat))):=Hd (fun W h=>by rw[h.cell 34,<-hp];rfl)
 have HCO:Hid (∀W,Bx W w.heap.size s B->W.cell? ⟨w.heap.size,1+p*14+7,none⟩=some (.slice oa B.own.length oc')):=Hd (fun W h=>by
  have h1:=h.zone (p:=p) (z:=2) hp2 (by omega);have h2:Value.slice (s.zl p 2).a (s.zl p 2).n (s.zl p 2).c= .slice oa B.own.length oc':=by rw[hown];exact hvo
  rw[<-h2];exact h1)
 have HCT:Hid (∀W,Bx W w.heap.size s B->W.cell? ⟨w.heap.size,1+(1-p)*14+7,none⟩=some (.slice ta B.oth.length tc')):=Hd (fun W h=>by
  have h1:=h.zone (p:=1-p) (z:=2) (by omega) (by omega);have h2:Value.slice (s.zl (1-p) 2).a (s.zl (1-p) 2).n (s.zl (1-p) 2).c= .slice ta B.oth.length tc':=by rw[hoth];exact hvt
  rw[<-h2];exact h1)
 have HFA:=Hd hfa;have HFB:=Hd hfb;have hma2:B.att.length<=1000:=HSM.o.att;have hmb2:B.bl.length<=1000:=HSM.o.bl;have HLO:Hid (B.own.length<=1000):=Hd (by rw[hown];exact HSM.o.zs p 2);have HLT:Hid (B.oth.length<=1000):=Hd (by rw[hoth];exact HSM.o.zs (1-p) 2);clear h hsm hac hnd hown hoth hva hvb hvo hvt hfa hfb hp hma hmb;have p1:(0:Int)<=(p:Int):=by omega
 have p2:(p:Int)<2:=by omega
 have hw1:wrap64 (1-(p:Int))=((1-p:Nat):Int):=by unfold wrap64;omega
 have p3:(0:Int)<=((1-p:Nat):Int):=by omega
 have p4:((1-p:Nat):Int)<2:=by omega
 go_enter Tryz.func26,Tryz.ntmps26
 go_upto_region 1 with fail
 change Code.wp Tryz.prog _ _ _ (w.alloc (.cells (bcells s B) 34))
 obtain⟨wz,hwz⟩:∃W,W=w.alloc (.cells (bcells s B) 34):=⟨_,rfl⟩
 have HX:Hid (Bx wz w.heap.size s B):=Hd (by rw[hwz];exact heap_alloc_new _ _);have HBZ:Hid (Below w.heap.size w wz):=Hd (by rw[hwz];exact(Below.refl _ _).alloc (Nat.le_refl _) _);rw[<-hwz];clear hwz;go_wp2_with fail
 go_loopw [3] (fun i wr=>RfA w s B i wr) (fun i _=>B.att.length-(intOf i).toNat)
 case atStart=>exact⟨0,by omega,rfl,HBZ.o,HX.o,⟨fun a h=>by simp at h⟩⟩
 obtain⟨i,hi,rfl,hb,hx,hfr⟩:=hrel
 have HB:=Hd hb;have HXX:=Hd hx;have HFR:=Hd hfr;have e31:=HC31.o wr hx;have e34:=HC34.o wr hx;have eow:=HCO.o wr hx;have hpl:=hx.lt;clear hx hfr HX HBZ
 by_cases hil:i<B.att.length
 ·obtain⟨b0,off,rfl,hlt,hc⟩:=HFA.o (by omega)
  obtain⟨x,hx⟩:∃x,B.att[i]? =some x:=⟨_,List.getElem?_eq_getElem hil⟩
  have d0:wr.cell? ⟨b0,off+i,none⟩=some (.int .i64 x):=(hb.cell (p:=⟨b0,off+i,none⟩) hlt).trans (by have:=hc i x hx 0 _ rfl;simpa using this);have hbl:b0<wr.heap.size:=Nat.lt_of_lt_of_le hlt hb.size;have i1:(0:Int)<=(i:Int):=by omega
  have i2:(i:Int)<(B.att.length:Int):=by omega
  have HX:=Hd hx;have HFAIL:=Hd (frA_fail (b:=B) hx HNO.o);have HSTEP:Hid (B.att.count x=1->B.own.count x=1->FrA B (i+1)):=Hd (HFR.o.step hx)
  obtain⟨ka,hka⟩:∃k,B.att.count x=k:=⟨_,rfl⟩
  obtain⟨ko,hko⟩:∃k,B.own.count x=k:=⟨_,rfl⟩
  have HKA:=Hd hka;have HKO:=Hd hko;clear hc hx hb hlt hka hko
  go_upto_region 4 with fail
  by_cases h1:ka=1
  ·have t1:(((B.att.count x:Nat):Int) !=1)=false:=by rw[HKA.o,h1];rfl
   have t1b:(B.att.count x !=1)=false:=by rw[HKA.o,h1];rfl
   by_cases h2:ko=1
   ·have t2:(((B.own.count x:Nat):Int) !=1)=false:=by rw[HKO.o,h2];rfl
    have t2b:(B.own.count x !=1)=false:=by rw[HKO.o,h2];rfl
    have HFA2:=Hd (HSTEP.o (HKA.o.trans h1) (HKO.o.trans h2));clear h1 h2;refine rg26_4 (w0:=wr) (B:=wr.heap.size) (n:=wr.heap.size) (L:=[]) (by kernel_rfl) rfl (by kernel_rfl) (.t ⟨by go_grown,by go_size,(by simp[go_sem]<;>omega)⟩) (fun w71 K_w71 E_w71 F_w71=> ?_);have _ne:Nonempty (KX (wr.heap.size) wr (wr.heap.size) [] (fun _=>True)):=⟨⟨_,K_w71,E_w71⟩⟩
    repeat (go_big_quiet_step (fail))
    refine wpQuiet_nil ?_;have ra:=rck _ne e31 hpl;have rb:=rck _ne d0 hbl;have rc:=rck _ne e34 hpl;have rd:=rck _ne eow hpl
    repeat (go_big_quiet_step (fail))
    refine wpQuiet_nil ?_
    repeat (go_big_quiet_step (fail))
    refine wpQuiet_nil ?_
    repeat (go_big_quiet_step (fail))
    refine wpQuiet_nil ?_;have KH_w71:=Hd K_w71;have hw_w71:=K_w71.below;have hz_w71:=K_w71.size;clear K_w71;clear E_w71 F_w71
    refine⟨fun K hK0=> ?_,trivial⟩
    have hK:=Hd hK0;clear hK0;replace HXX:=Hd (HXX.o.below hw_w71);replace HB:=Hd (below_via HB.o hw_w71);clear hw_w71 hz_w71;go_wp2_with fail
    with_reducible refine(countI _ _ x _ (HRA.o.below HB.o)).mono ?_
    rintro e w' ⟨rfl,rfl⟩;go_wp2_with fail
    first|refine⟨rfl,?u,hK.o _ _ ?_⟩|refine⟨?u,hK.o _ _ ?_⟩
    case u=>exact⟨⟨_,KH_w71.o,trivial⟩,rfl⟩
    clear hK K
    repeat (go_big_quiet_step (fail))
    refine wpQuiet_nil ?_
    repeat (go_big_quiet_step (fail))
    refine wpQuiet_nil ?_
    repeat (go_big_quiet_step (fail))
    refine wpQuiet_nil ?_
    repeat (go_big_quiet_step (fail))
    refine wpQuiet_nil ?_
    repeat (go_big_quiet_step (fail))
    refine wpQuiet_nil ?_
    repeat (go_big_quiet_step (fail))
    refine wpQuiet_nil ?_
    refine⟨fun K hK0=> ?_,trivial⟩
    have hK:=Hd hK0;clear hK0;go_wp2_with fail
    with_reducible refine(countI _ _ x _ (HRO.o.below HB.o)).mono ?_
    rintro e w' ⟨rfl,rfl⟩;go_wp2_with fail
    first|refine⟨rfl,hK.o _ _ ?_⟩|refine hK.o _ _ ?_
    clear hK K
    repeat (go_big_quiet_step (fail))
    refine wpQuiet_nil ?_;clear ra rb rc rd;clear _ne;go_wp2_with fail
    go_roundw
    case rel=>exact⟨i+1,by omega,by go_num,HB.o,HXX.o,HFA2.o⟩
    case measure=>simp[intOf];omega
   have t2:(((B.own.count x:Nat):Int) !=1)=true:=by rw[HKO.o];simp;omega
   have t2b:(B.own.count x !=1)=true:=by rw[HKO.o];simp[h2]
   have HN:Hid (¬Fgt B):=Hd (HFAIL.o (.inr (by rw[HKO.o];exact h2)));clear h1 h2;refine rg26_4 (w0:=wr) (B:=wr.heap.size) (n:=wr.heap.size) (L:=[]) (by kernel_rfl) rfl (by kernel_rfl) (.t ⟨by go_grown,by go_size,(by simp[go_sem]<;>omega)⟩) (fun w71 K_w71 E_w71 F_w71=> ?_);have _ne:Nonempty (KX (wr.heap.size) wr (wr.heap.size) [] (fun _=>True)):=⟨⟨_,K_w71,E_w71⟩⟩
   repeat (go_big_quiet_step (fail))
   refine wpQuiet_nil ?_;have ra:=rck _ne e31 hpl;have rb:=rck _ne d0 hbl;have rc:=rck _ne e34 hpl;have rd:=rck _ne eow hpl
   repeat (go_big_quiet_step (fail))
   refine wpQuiet_nil ?_
   repeat (go_big_quiet_step (fail))
   refine wpQuiet_nil ?_
   repeat (go_big_quiet_step (fail))
   refine wpQuiet_nil ?_;have KH_w71:=Hd K_w71;have hw_w71:=K_w71.below;have hz_w71:=K_w71.size;clear K_w71;clear E_w71 F_w71
   refine⟨fun K hK0=> ?_,trivial⟩
   have hK:=Hd hK0;clear hK0;replace HXX:=Hd (HXX.o.below hw_w71);replace HB:=Hd (below_via HB.o hw_w71);clear hw_w71 hz_w71;go_wp2_with fail
   with_reducible refine(countI _ _ x _ (HRA.o.below HB.o)).mono ?_
   rintro e w' ⟨rfl,rfl⟩;go_wp2_with fail
   first|refine⟨rfl,?u,hK.o _ _ ?_⟩|refine⟨?u,hK.o _ _ ?_⟩
   case u=>exact⟨⟨_,KH_w71.o,trivial⟩,rfl⟩
   clear hK K
   repeat (go_big_quiet_step (fail))
   refine wpQuiet_nil ?_
   repeat (go_big_quiet_step (fail))
   refine wpQuiet_nil ?_
   repeat (go_big_quiet_step (fail))
   refine wpQuiet_nil ?_
   repeat (go_big_quiet_step (fail))
   refine wpQuiet_nil ?_
   repeat (go_big_quiet_step (fail))
   refine wpQuiet_nil ?_
   repeat (go_big_quiet_step (fail))
   refine wpQuiet_nil ?_
   refine⟨fun K hK0=> ?_,trivial⟩
   have hK:=Hd hK0;clear hK0;go_wp2_with fail
   with_reducible refine(countI _ _ x _ (HRO.o.below HB.o)).mono ?_
   rintro e w' ⟨rfl,rfl⟩;go_wp2_with fail
   first|refine⟨rfl,hK.o _ _ ?_⟩|refine hK.o _ _ ?_
   clear hK K
   repeat (go_big_quiet_step (fail))
   refine wpQuiet_nil ?_;clear ra rb rc rd;clear _ne;go_wp2_with fail
   go_returns
   exact⟨⟨false,rfl,⟨fun h=>(by cases h),fun h=>absurd h HN.o⟩⟩,HB.o⟩
  have t1:(((B.att.count x:Nat):Int) !=1)=true:=by rw[HKA.o];simp;omega
  have t1b:(B.att.count x !=1)=true:=by rw[HKA.o];simp[h1]
  have HN:Hid (¬Fgt B):=Hd (HFAIL.o (.inl (by rw[HKA.o];exact h1)));clear h1;refine rg26_4 (w0:=wr) (B:=wr.heap.size) (n:=wr.heap.size) (L:=[]) (by kernel_rfl) rfl (by kernel_rfl) (.t ⟨by go_grown,by go_size,(by simp[go_sem]<;>omega)⟩) (fun w71 K_w71 E_w71 F_w71=> ?_);have _ne:Nonempty (KX (wr.heap.size) wr (wr.heap.size) [] (fun _=>True)):=⟨⟨_,K_w71,E_w71⟩⟩
  repeat (go_big_quiet_step (fail))
  refine wpQuiet_nil ?_;have ra:=rck _ne e31 hpl;have rb:=rck _ne d0 hbl;have rc:=rck _ne e34 hpl;have rd:=rck _ne eow hpl
  repeat (go_big_quiet_step (fail))
  refine wpQuiet_nil ?_
  repeat (go_big_quiet_step (fail))
  refine wpQuiet_nil ?_
  repeat (go_big_quiet_step (fail))
  refine wpQuiet_nil ?_;have KH_w71:=Hd K_w71;have hw_w71:=K_w71.below;have hz_w71:=K_w71.size;clear K_w71;clear E_w71 F_w71
  refine⟨fun K hK0=> ?_,trivial⟩
  have hK:=Hd hK0;clear hK0;replace HXX:=Hd (HXX.o.below hw_w71);replace HB:=Hd (below_via HB.o hw_w71);clear hw_w71 hz_w71;go_wp2_with fail
  with_reducible refine(countI _ _ x _ (HRA.o.below HB.o)).mono ?_
  rintro e w' ⟨rfl,rfl⟩;go_wp2_with fail
  first|refine⟨rfl,?u,hK.o _ _ ?_⟩|refine⟨?u,hK.o _ _ ?_⟩
  case u=>exact⟨⟨_,KH_w71.o,trivial⟩,rfl⟩
  clear hK K
  repeat (go_big_quiet_step (fail))
  refine wpQuiet_nil ?_
  repeat (go_big_quiet_step (fail))
  refine wpQuiet_nil ?_
  repeat (go_big_quiet_step (fail))
  refine wpQuiet_nil ?_
  repeat (go_big_quiet_step (fail))
  refine wpQuiet_nil ?_
  repeat (go_big_quiet_step (fail))
  refine wpQuiet_nil ?_
  repeat (go_big_quiet_step (fail))
  refine wpQuiet_nil ?_
  refine⟨fun K hK0=> ?_,trivial⟩
  have hK:=Hd hK0;clear hK0;go_wp2_with fail
  first|refine⟨rfl,hK.o _ _ ?_⟩|refine hK.o _ _ ?_
  clear hK K
  repeat (go_big_quiet_step (fail))
  refine wpQuiet_nil ?_;clear ra rb rc rd;clear _ne;go_wp2_with fail
  go_returns
  exact⟨⟨false,rfl,⟨fun h=>(by cases h),fun h=>absurd h HN.o⟩⟩,HB.o⟩
 have hie:i=B.att.length:=by omega
 rw[hie] at HFR
 clear hie hb eow e34;go_wp2_with fail
 clear e31 hpl hil hi
 go_loopw [4] (fun i wr=>RfB w s B i wr) (fun i _=>B.bl.length-(intOf i).toNat)
 case atStart=>exact⟨0,by omega,rfl,HB.o,HXX.o,FrB.start B⟩
 obtain⟨i,hi,rfl,hb,hx,hfr⟩:=hrel
 replace HB:=Hd hb;replace HXX:=Hd hx;have HFB2:=Hd hfr;have e32:=HC32.o wr hx;clear hx hfr
 by_cases hil:i<B.bl.length
 ·obtain⟨b0,off,rfl,hlt,hc⟩:=HFB.o (by omega)
  obtain⟨x,hx⟩:∃x,B.bl[i]? =some x:=⟨_,List.getElem?_eq_getElem hil⟩
  have d0:wr.cell? ⟨b0,off+i*2,none⟩=some (.int .i64 x.bl):=(hb.cell (p:=⟨b0,off+i*2,none⟩) hlt).trans (hc i x hx 0 _ rfl);have d1:wr.cell? ⟨b0,off+i*2+1,none⟩=some (.int .i64 x.at'):=(hb.cell (p:=⟨b0,off+i*2+1,none⟩) hlt).trans (hc i x hx 1 _ rfl);have i1:(0:Int)<=(i:Int):=by omega
  have i2:(i:Int)<(B.bl.length:Int):=by omega
  have HLTB:=Hd hlt;have HCC:=Hd hc;have HXB:=Hd hx;have HFAIL:=Hd (frB_fail (b:=B) hx HNT.o);clear hc hx hb
  go_upto_region 10 with fail
  obtain⟨wq,hwq⟩:∃W,W=wr.alloc (.cells #[.int .i64 x.bl,.int .i64 x.at'] 89):=⟨_,rfl⟩
  rw[<-hwq];have hqb:Below wr.heap.size wr wq:=by rw[hwq];exact(Below.refl _ _).alloc (Nat.le_refl _) _
  have hqs:wq.heap.size=wr.heap.size+1:=by rw[hwq];simp
  have hqc:∀j,wq.cell? ⟨wr.heap.size,j,none⟩=(#[.int .i64 x.bl,.int .i64 x.at']:Array Value)[j]? :=fun j=>by rw[hwq];exact cell_of_row _ _ j _ 89 (0,0) (heap_alloc_new _ _)
  clear hwq d0 d1 e32;replace HB:=Hd (below_via HB.o hqb);replace HXX:=Hd (HXX.o.below hqb)
  obtain⟨n0,hn0⟩:∃n,n=wr.heap.size:=⟨_,rfl⟩
  rw[<-hn0] at hqs hqc ⊢
  have q0:wq.cell? ⟨n0,0,none⟩=some (.int .i64 x.bl):=hqc 0;have q1:wq.cell? ⟨n0,1,none⟩=some (.int .i64 x.at'):=hqc 1;have hnl:n0<wq.heap.size:=by omega
  have HQ:=Hd (And.intro hnl (And.intro q0 q1));have e31:=HC31.o wq HXX.o;have e34:=HC34.o wq HXX.o;have eot:=HCT.o wq HXX.o;have hpl:=HXX.o.lt
  obtain⟨ka,hka⟩:∃k,B.att.count x.at' =k:=⟨_,rfl⟩
  obtain⟨ko,hko⟩:∃k,B.oth.count x.bl=k:=⟨_,rfl⟩
  have HKA:=Hd hka;have HKO:=Hd hko;clear hka hko hqb hqs hqc hn0
  by_cases h1:ka=1
  ·have t1:(((B.att.count x.at':Nat):Int) !=1)=false:=by rw[HKA.o,h1];rfl
   have t1b:(B.att.count x.at' !=1)=false:=by rw[HKA.o,h1];rfl
   by_cases h2:ko=1
   ·have t2:(((B.oth.count x.bl:Nat):Int) !=1)=false:=by rw[HKO.o,h2];rfl
    have t2b:(B.oth.count x.bl !=1)=false:=by rw[HKO.o,h2];rfl
    have HSTEP:Hid ((∀(j:Nat) (y:Bk),j<i->B.bl[j]? =some y->y.at'≠x.at'/\y.bl≠x.bl)->FrB B (i+1)):=Hd (fun h=>HFB2.o.step HXB.o (HKA.o.trans h1) (HKO.o.trans h2) h);clear h1 h2;refine rg26_10 (w0:=wq) (B:=wq.heap.size) (n:=wq.heap.size) (L:=[]) (by kernel_rfl) rfl (by kernel_rfl) (.t ⟨by go_grown,by go_size,(by simp[go_sem]<;>omega)⟩) (fun w81 K_w81 E_w81 F_w81=> ?_);have _ne:Nonempty (KX (wq.heap.size) wq (wq.heap.size) [] (fun _=>True)):=⟨⟨_,K_w81,E_w81⟩⟩
    repeat (go_big_quiet_step (fail))
    refine wpQuiet_nil ?_;have ra:=rck _ne e31 hpl;have rb:=rck _ne q1 hnl;have rc:=rck _ne e34 hpl;have rd:=rck _ne eot hpl;have re:=rck _ne q0 hnl
    repeat (go_big_quiet_step (fail))
    refine wpQuiet_nil ?_;have KH_w81:=Hd K_w81;have hw_w81:=K_w81.below;have hz_w81:=K_w81.size;clear K_w81;clear E_w81 F_w81
    refine⟨fun K hK0=> ?_,trivial⟩
    have hK:=Hd hK0;clear hK0;replace HXX:=Hd (HXX.o.below hw_w81);replace HB:=Hd (below_via HB.o hw_w81);replace HQ:=Hd (And.intro (Nat.lt_of_lt_of_le HQ.o.1 hw_w81.size) (And.intro ((hw_w81.cell (p:=⟨n0,0,none⟩) HQ.o.1).trans HQ.o.2.1) ((hw_w81.cell (p:=⟨n0,1,none⟩) HQ.o.1).trans HQ.o.2.2)));clear hw_w81 hz_w81;go_wp2_with fail
    with_reducible refine(countI _ _ x.at' _ (HRA.o.below HB.o)).mono ?_
    rintro e w' ⟨rfl,rfl⟩;go_wp2_with fail
    first|refine⟨rfl,?u,hK.o _ _ ?_⟩|refine⟨?u,hK.o _ _ ?_⟩
    case u=>exact⟨⟨_,KH_w81.o,trivial⟩,rfl⟩
    clear hK K
    repeat (go_big_quiet_step (fail))
    refine wpQuiet_nil ?_
    repeat (go_big_quiet_step (fail))
    refine wpQuiet_nil ?_
    repeat (go_big_quiet_step (fail))
    refine wpQuiet_nil ?_
    repeat (go_big_quiet_step (fail))
    refine wpQuiet_nil ?_
    refine⟨fun K hK0=> ?_,trivial⟩
    have hK:=Hd hK0;clear hK0;go_wp2_with fail
    with_reducible refine(countI _ _ x.bl _ (HRT.o.below HB.o)).mono ?_
    rintro e w' ⟨rfl,rfl⟩;go_wp2_with fail
    first|refine⟨rfl,hK.o _ _ ?_⟩|refine hK.o _ _ ?_
    clear hK K
    repeat (go_big_quiet_step (fail))
    refine wpQuiet_nil ?_;clear ra rb rc rd re;clear _ne;clear t1 t1b t2 t2b q0 q1 e31 e34 eot hpl hnl;go_wp2_with fail
    go_loopw [6] (fun v wr=>RfK w s B n0 i x v wr) (fun v _=>i-(intOf v).toNat)
    case atStart=>exact⟨0,by omega,rfl,HB.o,HXX.o,HQ.o,fun j y h=>by omega⟩
    obtain⟨j,hj,rfl,hb,hx,hq,hno⟩:=hrel
    replace HB:=Hd hb;replace HXX:=Hd hx;replace HQ:=Hd hq;have HNE:=Hd hno;have hpl:=hx.lt;clear hx hno
    by_cases hji:j<i
    ·obtain⟨y,hy⟩:∃y,B.bl[j]? =some y:=⟨_,List.getElem?_eq_getElem (by omega)⟩
     have g0:wr.cell? ⟨b0,off+j*2,none⟩=some (.int .i64 y.bl):=(hb.cell (p:=⟨b0,off+j*2,none⟩) HLTB.o).trans (HCC.o j y hy 0 _ rfl);have g1:wr.cell? ⟨b0,off+j*2+1,none⟩=some (.int .i64 y.at'):=(hb.cell (p:=⟨b0,off+j*2+1,none⟩) HLTB.o).trans (HCC.o j y hy 1 _ rfl);have e32:=HC32.o wr HXX.o;have q0:=hq.2.1;have q1:=hq.2.2;have hnl:=hq.1;have hbl:b0<wr.heap.size:=Nat.lt_of_lt_of_le HLTB.o hb.size;have j1:(0:Int)<=(j:Int):=by omega
     have j2:(j:Int)<(i:Int):=by omega
     have j3:(j:Int)<(B.bl.length:Int):=by omega
     have HY:=Hd hy;have HJI:=Hd hji;clear hy hb hq
     go_upto_region 15 with fail
     by_cases h1:y.at' =x.at'
     ·have t1:(y.at' ==x.at')=true:=by simp[h1]
      have HN:Hid (¬Fgt B):=Hd (HFAIL.o (.inr (.inr ⟨j,y,HJI.o,HY.o,.inl h1⟩)));clear h1;refine rg26_15 (w0:=wr) (B:=wr.heap.size) (n:=wr.heap.size) (L:=[]) (by kernel_rfl) rfl (by kernel_rfl) (.t ⟨by go_grown,by go_size,(by simp[go_sem]<;>omega)⟩) (fun w91 K_w91 E_w91 F_w91=> ?_);have _ne:Nonempty (KX (wr.heap.size) wr (wr.heap.size) [] (fun _=>True)):=⟨⟨_,K_w91,E_w91⟩⟩
      repeat (go_big_quiet_step (fail))
      refine wpQuiet_nil ?_;have ra:=rck _ne e32 hpl;have rb:=rck _ne g1 hbl;have rc:=rck _ne g0 hbl;have rd:=rck _ne q1 hnl;have re:=rck _ne q0 hnl
      repeat (go_big_quiet_step (fail))
      refine wpQuiet_nil ?_
      repeat (go_big_quiet_step (fail))
      refine wpQuiet_nil ?_
      repeat (go_big_quiet_step (fail))
      refine wpQuiet_nil ?_
      repeat (go_big_quiet_step (fail))
      refine wpQuiet_nil ?_
      repeat (go_big_quiet_step (fail))
      refine wpQuiet_nil ?_
      repeat (go_big_quiet_step (fail))
      refine wpQuiet_nil ?_
      repeat (go_big_quiet_step (fail))
      refine wpQuiet_nil ?_
      repeat (go_big_quiet_step (fail))
      refine wpQuiet_nil ?_;clear ra rb rc rd re;clear _ne;have KH_w91:=Hd K_w91;have hw_w91:=K_w91.below;have hz_w91:=K_w91.size;clear K_w91;clear E_w91 F_w91;replace HXX:=Hd (HXX.o.below hw_w91);replace HB:=Hd (below_via HB.o hw_w91);replace HQ:=Hd (And.intro (Nat.lt_of_lt_of_le HQ.o.1 hw_w91.size) (And.intro ((hw_w91.cell (p:=⟨n0,0,none⟩) HQ.o.1).trans HQ.o.2.1) ((hw_w91.cell (p:=⟨n0,1,none⟩) HQ.o.1).trans HQ.o.2.2)));clear hw_w91 hz_w91;go_wp2_with fail
      go_returns
      exact⟨⟨false,rfl,⟨fun h=>(by cases h),fun h=>absurd h HN.o⟩⟩,HB.o⟩
     have t1:(y.at' ==x.at')=false:=beq_false_of_ne h1
     by_cases h2:y.bl=x.bl
     ·have t2:(y.bl==x.bl)=true:=by simp[h2]
      have HN:Hid (¬Fgt B):=Hd (HFAIL.o (.inr (.inr ⟨j,y,HJI.o,HY.o,.inr h2⟩)));clear h1 h2;refine rg26_15 (w0:=wr) (B:=wr.heap.size) (n:=wr.heap.size) (L:=[]) (by kernel_rfl) rfl (by kernel_rfl) (.t ⟨by go_grown,by go_size,(by simp[go_sem]<;>omega)⟩) (fun w91 K_w91 E_w91 F_w91=> ?_);have _ne:Nonempty (KX (wr.heap.size) wr (wr.heap.size) [] (fun _=>True)):=⟨⟨_,K_w91,E_w91⟩⟩
      repeat (go_big_quiet_step (fail))
      refine wpQuiet_nil ?_;have ra:=rck _ne e32 hpl;have rb:=rck _ne g1 hbl;have rc:=rck _ne g0 hbl;have rd:=rck _ne q1 hnl;have re:=rck _ne q0 hnl
      repeat (go_big_quiet_step (fail))
      refine wpQuiet_nil ?_
      repeat (go_big_quiet_step (fail))
      refine wpQuiet_nil ?_
      repeat (go_big_quiet_step (fail))
      refine wpQuiet_nil ?_
      repeat (go_big_quiet_step (fail))
      refine wpQuiet_nil ?_
      repeat (go_big_quiet_step (fail))
      refine wpQuiet_nil ?_
      repeat (go_big_quiet_step (fail))
      refine wpQuiet_nil ?_
      repeat (go_big_quiet_step (fail))
      refine wpQuiet_nil ?_
      repeat (go_big_quiet_step (fail))
      refine wpQuiet_nil ?_;clear ra rb rc rd re;clear _ne;have KH_w91:=Hd K_w91;have hw_w91:=K_w91.below;have hz_w91:=K_w91.size;clear K_w91;clear E_w91 F_w91;replace HXX:=Hd (HXX.o.below hw_w91);replace HB:=Hd (below_via HB.o hw_w91);replace HQ:=Hd (And.intro (Nat.lt_of_lt_of_le HQ.o.1 hw_w91.size) (And.intro ((hw_w91.cell (p:=⟨n0,0,none⟩) HQ.o.1).trans HQ.o.2.1) ((hw_w91.cell (p:=⟨n0,1,none⟩) HQ.o.1).trans HQ.o.2.2)));clear hw_w91 hz_w91;go_wp2_with fail
      go_returns
      exact⟨⟨false,rfl,⟨fun h=>(by cases h),fun h=>absurd h HN.o⟩⟩,HB.o⟩
     have t2:(y.bl==x.bl)=false:=beq_false_of_ne h2
     have HNE2:Hid (∀(k:Nat) (z:Bk),k<j+1->B.bl[k]? =some z->z.at'≠x.at'/\z.bl≠x.bl):=Hd (fun k z hk hz=>by
      rcases Nat.lt_or_ge k j with h3|h3
      ·exact HNE.o k z h3 hz
      obtain rfl:k=j:=by omega
      rw[HY.o] at hz
      simp at hz
      rw[<-hz]
      exact⟨h1,h2⟩)
     clear h1 h2;refine rg26_15 (w0:=wr) (B:=wr.heap.size) (n:=wr.heap.size) (L:=[]) (by kernel_rfl) rfl (by kernel_rfl) (.t ⟨by go_grown,by go_size,(by simp[go_sem]<;>omega)⟩) (fun w91 K_w91 E_w91 F_w91=> ?_);have _ne:Nonempty (KX (wr.heap.size) wr (wr.heap.size) [] (fun _=>True)):=⟨⟨_,K_w91,E_w91⟩⟩
     repeat (go_big_quiet_step (fail))
     refine wpQuiet_nil ?_;have ra:=rck _ne e32 hpl;have rb:=rck _ne g1 hbl;have rc:=rck _ne g0 hbl;have rd:=rck _ne q1 hnl;have re:=rck _ne q0 hnl
     repeat (go_big_quiet_step (fail))
     refine wpQuiet_nil ?_
     repeat (go_big_quiet_step (fail))
     refine wpQuiet_nil ?_
     repeat (go_big_quiet_step (fail))
     refine wpQuiet_nil ?_
     repeat (go_big_quiet_step (fail))
     refine wpQuiet_nil ?_
     repeat (go_big_quiet_step (fail))
     refine wpQuiet_nil ?_
     repeat (go_big_quiet_step (fail))
     refine wpQuiet_nil ?_
     repeat (go_big_quiet_step (fail))
     refine wpQuiet_nil ?_
     repeat (go_big_quiet_step (fail))
     refine wpQuiet_nil ?_;clear ra rb rc rd re;clear _ne;have KH_w91:=Hd K_w91;have hw_w91:=K_w91.below;have hz_w91:=K_w91.size;clear K_w91;clear E_w91 F_w91;replace HXX:=Hd (HXX.o.below hw_w91);replace HB:=Hd (below_via HB.o hw_w91);replace HQ:=Hd (And.intro (Nat.lt_of_lt_of_le HQ.o.1 hw_w91.size) (And.intro ((hw_w91.cell (p:=⟨n0,0,none⟩) HQ.o.1).trans HQ.o.2.1) ((hw_w91.cell (p:=⟨n0,1,none⟩) HQ.o.1).trans HQ.o.2.2)));clear hw_w91 hz_w91;go_wp2_with fail
     go_roundw
     case rel=>exact⟨j+1,by omega,by go_num,HB.o,HXX.o,HQ.o,HNE2.o⟩
     case measure=>simp[intOf];omega
    have hje:j=i:=by omega
    rw[hje] at HNE
    have HFB3:=Hd (HSTEP.o HNE.o);clear hje hb hq hpl;go_wp2_with fail
    go_roundw
    case rel=>exact⟨i+1,by omega,by go_num,HB.o,HXX.o,HFB3.o⟩
    case measure=>simp[intOf];omega
   have t2:(((B.oth.count x.bl:Nat):Int) !=1)=true:=by rw[HKO.o];simp;omega
   have t2b:(B.oth.count x.bl !=1)=true:=by rw[HKO.o];simp[h2]
   have HN:Hid (¬Fgt B):=Hd (HFAIL.o (.inr (.inl (by rw[HKO.o];exact h2))));clear h1 h2;refine rg26_10 (w0:=wq) (B:=wq.heap.size) (n:=wq.heap.size) (L:=[]) (by kernel_rfl) rfl (by kernel_rfl) (.t ⟨by go_grown,by go_size,(by simp[go_sem]<;>omega)⟩) (fun w81 K_w81 E_w81 F_w81=> ?_);have _ne:Nonempty (KX (wq.heap.size) wq (wq.heap.size) [] (fun _=>True)):=⟨⟨_,K_w81,E_w81⟩⟩
   repeat (go_big_quiet_step (fail))
   refine wpQuiet_nil ?_;have ra:=rck _ne e31 hpl;have rb:=rck _ne q1 hnl;have rc:=rck _ne e34 hpl;have rd:=rck _ne eot hpl;have re:=rck _ne q0 hnl
   repeat (go_big_quiet_step (fail))
   refine wpQuiet_nil ?_;have KH_w81:=Hd K_w81;have hw_w81:=K_w81.below;have hz_w81:=K_w81.size;clear K_w81;clear E_w81 F_w81
   refine⟨fun K hK0=> ?_,trivial⟩
   have hK:=Hd hK0;clear hK0;replace HXX:=Hd (HXX.o.below hw_w81);replace HB:=Hd (below_via HB.o hw_w81);replace HQ:=Hd (And.intro (Nat.lt_of_lt_of_le HQ.o.1 hw_w81.size) (And.intro ((hw_w81.cell (p:=⟨n0,0,none⟩) HQ.o.1).trans HQ.o.2.1) ((hw_w81.cell (p:=⟨n0,1,none⟩) HQ.o.1).trans HQ.o.2.2)));clear hw_w81 hz_w81;go_wp2_with fail
   with_reducible refine(countI _ _ x.at' _ (HRA.o.below HB.o)).mono ?_
   rintro e w' ⟨rfl,rfl⟩;go_wp2_with fail
   first|refine⟨rfl,?u,hK.o _ _ ?_⟩|refine⟨?u,hK.o _ _ ?_⟩
   case u=>exact⟨⟨_,KH_w81.o,trivial⟩,rfl⟩
   clear hK K
   repeat (go_big_quiet_step (fail))
   refine wpQuiet_nil ?_
   repeat (go_big_quiet_step (fail))
   refine wpQuiet_nil ?_
   repeat (go_big_quiet_step (fail))
   refine wpQuiet_nil ?_
   repeat (go_big_quiet_step (fail))
   refine wpQuiet_nil ?_
   refine⟨fun K hK0=> ?_,trivial⟩
   have hK:=Hd hK0;clear hK0;go_wp2_with fail
   with_reducible refine(countI _ _ x.bl _ (HRT.o.below HB.o)).mono ?_
   rintro e w' ⟨rfl,rfl⟩;go_wp2_with fail
   first|refine⟨rfl,hK.o _ _ ?_⟩|refine hK.o _ _ ?_
   clear hK K
   repeat (go_big_quiet_step (fail))
   refine wpQuiet_nil ?_;clear ra rb rc rd re;clear _ne;go_wp2_with fail
   go_returns
   exact⟨⟨false,rfl,⟨fun h=>(by cases h),fun h=>absurd h HN.o⟩⟩,HB.o⟩
  have t1:(((B.att.count x.at':Nat):Int) !=1)=true:=by rw[HKA.o];simp;omega
  have t1b:(B.att.count x.at' !=1)=true:=by rw[HKA.o];simp[h1]
  have HN:Hid (¬Fgt B):=Hd (HFAIL.o (.inl (by rw[HKA.o];exact h1)));clear h1;refine rg26_10 (w0:=wq) (B:=wq.heap.size) (n:=wq.heap.size) (L:=[]) (by kernel_rfl) rfl (by kernel_rfl) (.t ⟨by go_grown,by go_size,(by simp[go_sem]<;>omega)⟩) (fun w81 K_w81 E_w81 F_w81=> ?_);have _ne:Nonempty (KX (wq.heap.size) wq (wq.heap.size) [] (fun _=>True)):=⟨⟨_,K_w81,E_w81⟩⟩
  repeat (go_big_quiet_step (fail))
  refine wpQuiet_nil ?_;have ra:=rck _ne e31 hpl;have rb:=rck _ne q1 hnl;have rc:=rck _ne e34 hpl;have rd:=rck _ne eot hpl;have re:=rck _ne q0 hnl
  repeat (go_big_quiet_step (fail))
  refine wpQuiet_nil ?_;have KH_w81:=Hd K_w81;have hw_w81:=K_w81.below;have hz_w81:=K_w81.size;clear K_w81;clear E_w81 F_w81
  refine⟨fun K hK0=> ?_,trivial⟩
  have hK:=Hd hK0;clear hK0;replace HXX:=Hd (HXX.o.below hw_w81);replace HB:=Hd (below_via HB.o hw_w81);replace HQ:=Hd (And.intro (Nat.lt_of_lt_of_le HQ.o.1 hw_w81.size) (And.intro ((hw_w81.cell (p:=⟨n0,0,none⟩) HQ.o.1).trans HQ.o.2.1) ((hw_w81.cell (p:=⟨n0,1,none⟩) HQ.o.1).trans HQ.o.2.2)));clear hw_w81 hz_w81;go_wp2_with fail
  with_reducible refine(countI _ _ x.at' _ (HRA.o.below HB.o)).mono ?_
  rintro e w' ⟨rfl,rfl⟩;go_wp2_with fail
  first|refine⟨rfl,?u,hK.o _ _ ?_⟩|refine⟨?u,hK.o _ _ ?_⟩
  case u=>exact⟨⟨_,KH_w81.o,trivial⟩,rfl⟩
  clear hK K
  repeat (go_big_quiet_step (fail))
  refine wpQuiet_nil ?_
  repeat (go_big_quiet_step (fail))
  refine wpQuiet_nil ?_
  repeat (go_big_quiet_step (fail))
  refine wpQuiet_nil ?_
  repeat (go_big_quiet_step (fail))
  refine wpQuiet_nil ?_
  refine⟨fun K hK0=> ?_,trivial⟩
  have hK:=Hd hK0;clear hK0;go_wp2_with fail
  first|refine⟨rfl,hK.o _ _ ?_⟩|refine hK.o _ _ ?_
  clear hK K
  repeat (go_big_quiet_step (fail))
  refine wpQuiet_nil ?_;clear ra rb rc rd re;clear _ne;go_wp2_with fail
  go_returns
  exact⟨⟨false,rfl,⟨fun h=>(by cases h),fun h=>absurd h HN.o⟩⟩,HB.o⟩
 have hie:i=B.bl.length:=by omega
 rw[hie] at HFB2
 have HF:Hid (Fgt B):=Hd (FrB.done HFR.o HFB2.o);clear hie hb;go_wp2_with fail
 go_returns
 exact⟨⟨true,rfl,⟨fun _=>HF.o,fun _=>rfl⟩⟩,HB.o⟩
end Go.Proofs.YtpbepnpnpopmfaaGreat
