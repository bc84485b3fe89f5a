/- The cells of our own memory, by their place in the list. What is in its place, by the reference. -/
import Derived.Test.YtpbepnpnpopmfaaGreatRw
import Derived.Test.YtpbepnpnpopmfaaGreatBRg
import Derived.Test.YtpbepnpnpopmfaaGreatBO
import Derived.Deep.DeepCutAuto
import Derived.LoopTactic
import Derived.Deep.MidRow
open Go.RowKit Go.Proofs.YtpbepnpnpopmfaaGreat
namespace Go.Proofs.YtpbepnpnpopmfaaGreat
set_option linter.unusedVariables false

theorem Kept.nth{B n:Nat}{w W:World}{L:List (Nat×Nat×Value)}(k:Kept B w n L W)(i:Nat){b o:Nat}{v:Value}(h:L[i]? =Option.some (b,o,v)):W.cell? ⟨b,o,none⟩=Option.some v:=k.at (List.mem_of_getElem? h)
theorem Kept.nthF{B n:Nat}{w W:World}{L:List (Nat×Nat×Value)}(k:Kept B w n L W)(i:Nat){b o:Nat}{v:Value}(h:L[i]? =Option.some (b,o,v)):W.frozen? ⟨b,o,none⟩=false:=k.free (List.mem_of_getElem? h)
theorem rcx{B n:Nat}{w:World}{L:List (Nat×Nat×Value)}{E:World->Prop}(_:Nonempty (KX B w n L E))(i:Nat){b o:Nat}{v:Value}(h:L[i]? =Option.some (b,o,v)):∀s:KX B w n L E,s.val.cell? ⟨b,o,none⟩=Option.some v:=fun s=>s.kept.nth i h
end Go.Proofs.YtpbepnpnpopmfaaGreat
namespace Go.Proofs.YtpbepnpnpopmfaaGreat
open Plain
set_option linter.unusedVariables false
set_option linter.unusedSimpArgs false

theorem rg25_17{P:Program}{B n:Nat}{w0:World}{L:List (Nat×Nat×Value)}{E F:World->Prop}{id:Nat}{Q:Exit->Act->World->Prop}{a:Act}{w:World}{A:Array Oper}{o0 o1 o2 o3 o4 o5 o6 o7 o8 o9 o10 o11 o12:Oper}(hm:P.follows .mixedOrders=true)(hA:A=[o0,o1,o2,o3,o4,o5,o6,o7,o8,o9,o10,o11,o12].toArray)(hB:regOk A [4,8,10] [0,1,2,3,5,6,7,9,11,12] (.fs [0,1,2,3,5,9] (.rs [4] (.fs [6,7] (.rs [8,10] (.fs [11,12] .done)))))=true)(c:RC B w0 n L E F w)
  (h:∀wk,Kept B w0 n L wk->E wk->F wk->wpQuiet P A (fun _=>True) (fun a0=>wpQuiet P A (fun w' =>∃s:KX B w0 n L E,w' =s.val) (fun a1=>wpQuiet P A (fun _=>True) (fun a2=>wpQuiet P A (fun w' =>∃s:KX B w0 n L E,w' =s.val) (fun a3=>wpQuiet P A (fun _=>True) (fun a4=>Q .normal a4 wk) [o11,o12] a3) [o8,o10] a2) [o6,o7] a1) [o4] a0) [o0,o1,o2,o3,o5,o9] a):(Code.region id A true).wp P Q a w:=by
 subst hA;exact wp_reg _ _ _ hm hB c (fun wk k e f=>have g:=h wk k e f;Scr.of_fs _ _ rfl g fun _ g=>Scr.of_rs _ _ rfl g fun _ g=>Scr.of_fs _ _ rfl g fun _ g=>Scr.of_rs _ _ rfl g fun _ g=>Scr.of_fs _ _ rfl g fun _ g=>g)
theorem rg25_23_ok{P:Program}{id:Nat}{Q:Exit->Act->World->Prop}{a:Act}{w:World}{A:Array Oper}(hB:regOk A [0,8,13,15,22,24] [2,3,4,5,6,7,9,10,11,12,14,16,17,18,19,21,23,26,27] (.rs [0] (.alt 1 (.fs [2,3,4,5,6,7,9,10,14] (.rs [8] (.fs [11,12] (.rs [13,15] (.fs [16,17,18,19,21,23] (.rs [22,24] (.alt 20 (.altc 25 (.fs [26,27] .done) .stop) .stop))))))) .stop))=true)(h:regOk A [0,8,13,15,22,24] [2,3,4,5,6,7,9,10,11,12,14,16,17,18,19,21,23,26,27] (.rs [0] (.alt 1 (.fs [2,3,4,5,6,7,9,10,14] (.rs [8] (.fs [11,12] (.rs [13,15] (.fs [16,17,18,19,21,23] (.rs [22,24] (.alt 20 (.altc 25 (.fs [26,27] .done) .stop) .stop))))))) .stop))=true->(Code.region id A true).wp P Q a w):(Code.region id A true).wp P Q a w:=h hB
theorem rg25_23{P:Program}{B n:Nat}{w0:World}{L:List (Nat×Nat×Value)}{E F:World->Prop}{id:Nat}{Q:Exit->Act->World->Prop}{a:Act}{w:World}{A:Array Oper}{o0 o1 o2 o3 o4 o5 o6 o7 o8 o9 o10 o11 o12 o13 o14 o15 o16 o17 o18 o19 o20 o21 o22 o23 o24 o25 o26 o27:Oper}(hm:P.follows .mixedOrders=true)(hA:A=[o0,o1,o2,o3,o4,o5,o6,o7,o8,o9,o10,o11,o12,o13,o14,o15,o16,o17,o18,o19,o20,o21,o22,o23,o24,o25,o26,o27].toArray)(hB:regOk A [0,8,13,15,22,24] [2,3,4,5,6,7,9,10,11,12,14,16,17,18,19,21,23,26,27] (.rs [0] (.alt 1 (.fs [2,3,4,5,6,7,9,10,14] (.rs [8] (.fs [11,12] (.rs [13,15] (.fs [16,17,18,19,21,23] (.rs [22,24] (.alt 20 (.altc 25 (.fs [26,27] .done) .stop) .stop))))))) .stop))=true)(c:RC B w0 n L E F w)
  (h:∀wk,Kept B w0 n L wk->E wk->F wk->wpQuiet P A (fun w' =>∃s:KX B w0 n L E,w' =s.val) (fun a0=>((∀K1:Act->World->Prop,(∀a1 w1,wpQuiet P A (fun _=>True) (fun a2=>wpQuiet P A (fun w' =>∃s:KX B w0 n L E,w' =s.val) (fun a3=>wpQuiet P A (fun _=>True) (fun a4=>wpQuiet P A (fun w' =>∃s:KX B w0 n L E,w' =s.val) (fun a5=>wpQuiet P A (fun _=>True) (fun a6=>wpQuiet P A (fun w' =>∃s:KX B w0 n L E,w' =s.val) (fun a7=>((∀K8:Act->World->Prop,(∀a8 w8,((∀K9:Act->World->Prop,(∀a9 w9,wpQuiet P A (fun _=>True) (fun a10=>Q .normal a10 w9) [o26,o27] a9->K9 a9 w9)->wpList P A (fun e a9 w9=>e= .normal/\K9 a9 w9) [o25] a8 w8)/\True)->K8 a8 w8)->wpList P A (fun e a8 w8=>e= .normal/\(∃s:KX B w0 n L E,w8=s.val)/\K8 a8 w8) [o20] a7 w1)/\True)) [o22,o24] a6) [o16,o17,o18,o19,o21,o23] a5) [o13,o15] a4) [o11,o12] a3) [o8] a2) [o2,o3,o4,o5,o6,o7,o9,o10,o14] a1->K1 a1 w1)->wpList P A (fun e a1 w1=>e= .normal/\(∃s:KX B w0 n L E,w1=s.val)/\K1 a1 w1) [o1] a0 wk)/\True)) [o0] a):(Code.region id A true).wp P Q a w:=by
 subst hA;exact wp_reg _ _ _ hm hB c (fun wk k e f=>have g:=h wk k e f;Scr.of_rs _ _ rfl g fun _ g=>(Scr.of_alt rfl (g.1 _ fun _ _ g=>g) (fun _ _ g=>Scr.of_fs _ _ rfl g fun _ g=>Scr.of_rs _ _ rfl g fun _ g=>Scr.of_fs _ _ rfl g fun _ g=>Scr.of_rs _ _ rfl g fun _ g=>Scr.of_fs _ _ rfl g fun _ g=>Scr.of_rs _ _ rfl g fun _ g=>(Scr.of_alt rfl (g.1 _ fun _ _ g=>g) (fun _ _ g=>(Scr.of_altc rfl (g.1 _ fun _ _ g=>g) (fun _ _ g=>Scr.of_fs _ _ rfl g fun _ g=>g) trivial)) trivial)) trivial))
def FoP(w:World)(s:Bs)(B:Bd)(m p:Value)(wr:World):Prop:=∃k:Nat,k<=2/\p= .int .i64 k/\m= .int .i64 ((bpre B k 0).length:Nat)/\Below w.heap.size w wr/\Bx wr w.heap.size s B
def FoZ(w:World)(s:Bs)(B:Bd)(p:Nat)(m z:Value)(wr:World):Prop:=∃k:Nat,k<=4/\z= .int .i64 k/\m= .int .i64 ((bpre B p k).length:Nat)/\Below w.heap.size w wr/\Bx wr w.heap.size s B
def FoS(w:World)(s:Bs)(B:Bd)(m i:Value)(wr:World):Prop:=∃k:Nat,k<=B.st.length/\i= .int .i64 k/\m= .int .i64 ((bpre B 2 0++spr (B.st.take k)).length:Nat)/\Below w.heap.size w wr/\Bx wr w.heap.size s B/\stF B k
def FoO(w:World)(s:Bs)(B:Bd)(i:Value)(wr:World):Prop:=∃k:Nat,k<=B.ob.length/\i= .int .i64 k/\Below w.heap.size w wr/\Bx wr w.heap.size s B/\∀j o,j<k->B.ob[j]? =some o->okF B j o
set_option maxRecDepth 100000 in
set_option maxHeartbeats 40000000 in
theorem found(s:Bs)(B:Bd)(w:World)(h:BdR w s B)(hi:B.I)(hsm:B.Sm)(htr:∀x∈B.st, -1<=x.tr):Calls Tryz.prog 25 #[bv s B] w fun e w' =>(∃r,e= .returned (.bool r)/\(r=true↔Fnd B))/\Below w.heap.size w w':=by
 have HR:=Hd h;have HI:=Hd hi;have HSM:=Hd hsm;have HTR:=Hd htr;clear h hi hsm htr;go_enter Tryz.func25,Tryz.ntmps25
 go_upto_region 1 with fail
 change Code.wp Tryz.prog _ _ _ (w.alloc (.cells (bcells s B) 34))
 obtain⟨wz,hwz⟩:∃W,W=w.alloc (.cells (bcells s B) 34):=⟨_,rfl⟩
 have HX:Hid (Bx wz w.heap.size s B):=Hd (by rw[hwz];exact heap_alloc_new _ _);have HBZ:Hid (Below w.heap.size w wz):=Hd (by rw[hwz];exact(Below.refl _ _).alloc (Nat.le_refl _) _);rw[<-hwz];clear hwz;go_wp2_with fail
 go_loopw [3,4] (fun m p wr=>FoP w s B m p wr) (fun _ p _=>2-(intOf p).toNat)
 case atStart=>exact⟨0,by omega,rfl,rfl,HBZ.o,HX.o⟩
 obtain⟨p,hp,rfl,rfl,hb,hx⟩:=hrel
 have HB:=Hd hb;have HXX:=Hd hx;clear hb hx HX HBZ;have hbl:=bpre_len HSM.o p 0
 by_cases hp2:p<2
 ·have i1:(0:Int)<=(p:Int):=by omega
  have i2:(p:Int)<2:=by omega
  go_wp2_with (refine wpList_load_mid rfl 28 _ rfl w.heap.size (1+p*14) rfl (seL (s.zl p 0) (s.zl p 1) (s.zl p 2) (s.zl p 3) (B.seat p)) _ (HXX.o.seat hp2) Tryz.underlying28 rfl rfl ?_)
  with_reducible refine(zonesV _ _ _ _ _ _).mono ?_
  rintro e w2 ⟨rfl,hb2⟩;replace HXX:=Hd (HXX.o.below hb2);replace HB:=Hd (below_via HB.o hb2);clear hb2 i1 i2;go_wp2_with fail
  go_loopw [3,21] (fun m z wr=>FoZ w s B p m z wr) (fun _ z _=>4-(intOf z).toNat)
  case atStart=>exact⟨0,by omega,rfl,rfl,HB.o,HXX.o⟩
  obtain⟨z,hz,rfl,rfl,hb,hx⟩:=hrel
  replace HB:=Hd hb;replace HXX:=Hd hx;clear hb hx hbl;have hcl:=bpre_len HSM.o p z
  by_cases hz4:z<4
  ·have j1:(0:Int)<=(z:Int):=by omega
   have j2:(z:Int)<4:=by omega
   have hix:=idxz s p hz4;have HS:Hid ((bpre B p (z+1)).length=(bpre B p z).length+((B.seat p).zs z).length):=Hd (by rw[bpre_zone B hp2 hz4,List.length_append];simp[pr])
   obtain⟨_,za,zc,hv,_⟩:=(HR.o.zone p z).form
   have hc2:=HSM.o.zs p z;rw[hv] at hix
   obtain⟨c,hc⟩:∃c,(bpre B p z).length=c:=⟨_,rfl⟩
   obtain⟨c2,hc2e⟩:∃c,((B.seat p).zs z).length=c:=⟨_,rfl⟩
   rw[hc,hc2e] at HS
   rw[hc] at hcl ⊢
   rw[hc2e] at hc2 hix
   clear hc hc2e hv;go_wp2_with fail
   go_roundw
   case rel=>exact⟨z+1,by omega,by go_num,by rw[HS.o];go_num,HB.o,HXX.o⟩
   case measure=>simp[intOf];omega
  obtain rfl:z=4:=by omega
  have HBP:=Hd (bpre_four B hp2);go_wp2_with fail
  go_roundw
  case rel=>exact⟨p+1,by omega,by go_num,by rw[<-HBP.o],HB.o,HXX.o⟩
  case measure=>simp[intOf];omega
 have hpe:p=2:=by omega
 have HM0:Hid ((bpre B p 0).length=(bpre B 2 0++spr (B.st.take 0)).length):=Hd (by rw[hpe];simp[spr,cst]);clear hpe hbl
 obtain⟨l',hl',hrw,htg⟩:=HR.o.st
 have HTL:=Hd hl'
 obtain⟨hml,a0,c0,hv,hf⟩:=hrw.form
 simp only[Sl.v,Value.slice.injEq] at hv
 have hlen:l'.length=B.st.length:=by rw[<-hl',List.length_map]
 have HLN:=Hd hlen
 have HST:Hid (∀W,Bx W w.heap.size s B->W.cell? ⟨w.heap.size,29,none⟩=some (.slice a0 B.st.length c0)):=Hd (fun W h=>by
  rw[h.cell 29]
  show some (Value.slice s.st.a s.st.n s.st.c)=_
  rw[hv.1,hv.2.1,hv.2.2,hlen])
 have HF:=Hd hf;have hml2:B.st.length<=1000:=HSM.o.st;clear hl' hrw htg hv hf hlen hml
 obtain⟨hmo,a1,c1,hv,hf⟩:=HR.o.ob.form
 simp only[Sl.v,Value.slice.injEq] at hv
 have HCO:Hid (∀W,Bx W w.heap.size s B->W.cell? ⟨w.heap.size,0,none⟩=some (.slice a1 B.ob.length c1)):=Hd (fun W h=>by
  rw[h.cell 0]
  show some (Value.slice s.ob.a s.ob.n s.ob.c)=_
  rw[hv.1,hv.2.1,hv.2.2])
 have HFO:=Hd hf;clear hv hf;go_wp2_with fail
 clear hp2
 go_loopw [3,7] (fun m i wr=>FoS w s B m i wr) (fun _ i _=>B.st.length-(intOf i).toNat)
 case atStart=>exact⟨0,by omega,rfl,by rw[HM0.o],HB.o,HXX.o,fun x hx=>by simp[cst] at hx⟩
 obtain⟨i,hi,rfl,rfl,hb,hx,hsf⟩:=hrel
 replace HB:=Hd hb;replace HXX:=Hd hx;have HSF:=Hd hsf;have c29:=HST.o wr hx;clear hx hsf HM0
 have hcl:(bpre B 2 0++spr (B.st.take i)).length<=100000:=by
  have h1:=bpre_len HSM.o 2 0;have h2:=spr_le (B.st.take i);have h3:(B.st.take i).length<=B.st.length:=by simp;omega
  rw[List.length_append];omega
 by_cases hil:i<B.st.length
 ·obtain⟨b0,off,rfl,hlt,hc⟩:=HF.o (by have:=HLN.o;omega)
  obtain⟨y,hy⟩:∃y,l'[i]? =some y:=⟨_,List.getElem?_eq_getElem (by have:=HLN.o;omega)⟩
  obtain⟨x,⟨ta,tn,tc'⟩⟩:=y
  have hx:B.st[i]? =some x:=by rw[<-HTL.o,List.getElem?_map,hy];rfl
  have hd:∀(j:Nat) (u:Value),(itc (x,⟨ta,tn,tc'⟩))[j]? =some u->wr.cell? ⟨b0,off+(i*5+j),none⟩=some u:=fun j u hu=>(hb.cell (p:=⟨b0,off+(i*5+j),none⟩) hlt).trans (hc i _ hy j u hu)
  have d0:wr.cell? ⟨b0,off+i*5,none⟩=some (.int .i64 x.pl):=hd 0 _ rfl;have d1:=cA hd 1 rfl;have d2:=cA hd 2 rfl;have d3:=cA hd 3 rfl;have d4:wr.cell? ⟨b0,off+i*5+4,none⟩=some (.slice ta tn tc'):=by rw[Nat.add_assoc];exact hd 4 _ rfl
  have k1:(0:Int)<=(i:Int):=by omega
  have k2:(i:Int)<(B.st.length:Int):=by omega
  have HXS:=Hd hx;clear hc hy hx hd hb
  go_upto_region 14 with fail
  obtain⟨wq,hwq⟩:∃W,W=wr.alloc (.cells #[.int .i64 x.pl,.int .i64 x.id,.int .i64 x.cd,.int .i64 x.tr,.slice ta tn tc'] 73):=⟨_,rfl⟩
  rw[<-hwq];have hqb:Below wr.heap.size wr wq:=by rw[hwq];exact(Below.refl _ _).alloc (Nat.le_refl _) _
  have hqs:wq.heap.size=wr.heap.size+1:=by rw[hwq];simp
  have hqc:∀j,wq.cell? ⟨wr.heap.size,j,none⟩=(#[.int .i64 x.pl,.int .i64 x.id,.int .i64 x.cd,.int .i64 x.tr,.slice ta tn tc']:Array Value)[j]? :=fun j=>by rw[hwq];exact cell_of_row _ _ j _ 73 (0,0) (heap_alloc_new _ _)
  clear hwq d0 d1 d2 d3 d4 c29;replace HB:=Hd (below_via HB.o hqb);replace HXX:=Hd (HXX.o.below hqb)
  obtain⟨n0,hn0⟩:∃n,n=wr.heap.size:=⟨_,rfl⟩
  rw[<-hn0] at hqc hqs ⊢
  have q1:wq.cell? ⟨n0,1,none⟩=some (.int .i64 x.id):=hqc 1;have q2:wq.cell? ⟨n0,2,none⟩=some (.int .i64 x.cd):=hqc 2;have q3:wq.cell? ⟨n0,3,none⟩=some (.int .i64 x.tr):=hqc 3;have hnq:n0<wq.heap.size:=by omega
  clear hqb hqc hn0 hqs
  obtain⟨c,hc⟩:∃c,(bpre B 2 0++spr (B.st.take i)).length=c:=⟨_,rfl⟩
  by_cases g1:x.tr<0
  rotate_left
  ·have t1:decide (x.tr>=0)=true:=decide_eq_true (by omega)
   have HS:Hid ((bpre B 2 0++spr (B.st.take (i+1))).length=c):=Hd (by rw[spr_snoc _ _ _ HXS.o,if_neg g1];exact hc);have HSF2:=Hd (stF_skip HXS.o g1 HSF.o);rw[hc];clear hc hcl g1;go_wp2_with fail
   go_roundw
   case rel=>exact⟨i+1,by omega,by go_num,by rw[HS.o],HB.o,HXX.o,HSF2.o⟩
   case measure=>simp[intOf];omega
  have t1:decide (x.tr>=0)=false:=decide_eq_false (by omega)
  have HS:Hid ((bpre B 2 0++spr (B.st.take (i+1))).length=c+1):=Hd (by
   rw[spr_snoc _ _ _ HXS.o,if_pos g1,<-hc,List.length_append,List.length_append,List.length_append]
   simp
   omega)
  have HG1:=Hd g1;rw[hc] at hcl ⊢
  clear hc g1;go_wp2_with (refine wpList_load_bx _ rfl rfl HXX.o (by kernel_rfl) ?_)
  with_reducible refine(rindex s B x.id _ (HR.o.below HB.o)).mono ?_
  rintro e w5 ⟨⟨r,rfl,hr⟩,hb5⟩;replace HXX:=Hd (HXX.o.below hb5);replace HB:=Hd (below_via HB.o hb5);replace q2:=(hb5.cell (p:=⟨n0,2,none⟩) hnq).trans q2;have hnq5:n0<w5.heap.size:=Nat.lt_of_lt_of_le hnq hb5.size;clear hb5 q1 q3 hnq;rcases hr with⟨rfl,hno⟩|⟨j,y,rfl,hy,hyid,hfirst⟩
  ·have HN:Hid (¬Fnd B):=Hd (stF_fail HXS.o HG1.o (.inl hno))
   clear hno
   go_upto_region 17 with fail
   refine rg25_17 (w0:=w5) (B:=w5.heap.size) (n:=w5.heap.size) (L:=[]) (by kernel_rfl) rfl (by kernel_rfl) (.t ⟨by go_grown,by go_size,(by simp[go_sem]<;>omega)⟩) (fun w61 K_w61 E_w61 F_w61=> ?_);have _ne:Nonempty (KX (w5.heap.size) w5 (w5.heap.size) [] (fun _=>True)):=⟨⟨_,K_w61,E_w61⟩⟩
   repeat (go_big_quiet_step (fail))
   refine wpQuiet_nil ?_
   repeat (go_big_quiet_step (fail))
   refine wpQuiet_nil ?_
   repeat (go_big_quiet_step (fail))
   refine wpQuiet_nil ?_
   repeat (go_big_quiet_step (fail))
   refine wpQuiet_nil ?_
   repeat (go_big_quiet_step (fail))
   refine wpQuiet_nil ?_;clear _ne;have KH_w61:=Hd K_w61;have hw_w61:=K_w61.below;have hz_w61:=K_w61.size;clear K_w61;clear E_w61 F_w61;replace HXX:=Hd (HXX.o.below hw_w61);replace HB:=Hd (below_via HB.o hw_w61);clear hw_w61 hz_w61 KH_w61;go_wp2_with fail
   go_returns
   exact⟨⟨false,rfl,⟨fun h=>(by cases h),fun h=>absurd h HN.o⟩⟩,HB.o⟩
  obtain⟨b2,off2,rfl,hlt2,hc2⟩:=HFO.o (by have:=(List.getElem?_eq_some_iff.1 hy).1;omega)
  have e1:w5.cell? ⟨b2,off2+j*12+1,none⟩=some (.int .i64 y.cd):=by rw[Nat.add_assoc];exact(HB.o.cell (p:=⟨b2,off2+(j*12+1),none⟩) hlt2).trans (hc2 j y hy 1 _ rfl)
  have e0:=HCO.o _ HXX.o;have hb2:b2<w5.heap.size:=Nat.lt_of_lt_of_le hlt2 HB.o.size;have hp5:w.heap.size<w5.heap.size:=HXX.o.lt;have k3:(0:Int)<=(j:Int):=by omega
  have k4:(j:Int)<(B.ob.length:Int):=by have:=(List.getElem?_eq_some_iff.1 hy).1;omega
  have HY:=Hd hy;have HYI:=Hd hyid;have HFI:=Hd hfirst;have t6:decide ((j:Int)<0)=false:=decide_eq_false (by omega);clear hy hyid hfirst hc2 hlt2
  go_upto_region 17 with fail
  by_cases hcd:y.cd=x.cd
  ·have t5:(y.cd==x.cd)=true:=by simp[hcd]
   have HSF2:=Hd (stF_step HXS.o HG1.o HSF.o HY.o HYI.o HFI.o hcd);clear hcd;refine rg25_17 (w0:=w5) (B:=w5.heap.size) (n:=w5.heap.size) (L:=[]) (by kernel_rfl) rfl (by kernel_rfl) (.t ⟨by go_grown,by go_size,(by simp[go_sem]<;>omega)⟩) (fun w61 K_w61 E_w61 F_w61=> ?_);have _ne:Nonempty (KX (w5.heap.size) w5 (w5.heap.size) [] (fun _=>True)):=⟨⟨_,K_w61,E_w61⟩⟩
   repeat (go_big_quiet_step (fail))
   refine wpQuiet_nil ?_;have ra:=rck _ne e0 hp5;have rb:=rck _ne e1 hb2;have rc:=rck _ne q2 hnq5
   repeat (go_big_quiet_step (fail))
   refine wpQuiet_nil ?_
   repeat (go_big_quiet_step (fail))
   refine wpQuiet_nil ?_
   repeat (go_big_quiet_step (fail))
   refine wpQuiet_nil ?_
   repeat (go_big_quiet_step (fail))
   refine wpQuiet_nil ?_;clear ra rb rc;clear _ne;have KH_w61:=Hd K_w61;have hw_w61:=K_w61.below;have hz_w61:=K_w61.size;clear K_w61;clear E_w61 F_w61;replace HXX:=Hd (HXX.o.below hw_w61);replace HB:=Hd (below_via HB.o hw_w61);clear hw_w61 hz_w61 KH_w61;go_wp2_with fail
   go_roundw
   case rel=>exact⟨i+1,by omega,by go_num,by rw[HS.o];go_num,HB.o,HXX.o,HSF2.o⟩
   case measure=>simp[intOf];omega
  have t5:(y.cd==x.cd)=false:=beq_false_of_ne hcd;have HN:Hid (¬Fnd B):=Hd (stF_fail HXS.o HG1.o (.inr ⟨j,y,HY.o,HYI.o,HFI.o,hcd⟩));clear hcd;refine rg25_17 (w0:=w5) (B:=w5.heap.size) (n:=w5.heap.size) (L:=[]) (by kernel_rfl) rfl (by kernel_rfl) (.t ⟨by go_grown,by go_size,(by simp[go_sem]<;>omega)⟩) (fun w61 K_w61 E_w61 F_w61=> ?_);have _ne:Nonempty (KX (w5.heap.size) w5 (w5.heap.size) [] (fun _=>True)):=⟨⟨_,K_w61,E_w61⟩⟩
  repeat (go_big_quiet_step (fail))
  refine wpQuiet_nil ?_;have ra:=rck _ne e0 hp5;have rb:=rck _ne e1 hb2;have rc:=rck _ne q2 hnq5
  repeat (go_big_quiet_step (fail))
  refine wpQuiet_nil ?_
  repeat (go_big_quiet_step (fail))
  refine wpQuiet_nil ?_
  repeat (go_big_quiet_step (fail))
  refine wpQuiet_nil ?_
  repeat (go_big_quiet_step (fail))
  refine wpQuiet_nil ?_;clear ra rb rc;clear _ne;have KH_w61:=Hd K_w61;have hw_w61:=K_w61.below;have hz_w61:=K_w61.size;clear K_w61;clear E_w61 F_w61;replace HXX:=Hd (HXX.o.below hw_w61);replace HB:=Hd (below_via HB.o hw_w61);clear hw_w61 hz_w61 KH_w61;go_wp2_with fail
  go_returns
  exact⟨⟨false,rfl,⟨fun h=>(by cases h),fun h=>absurd h HN.o⟩⟩,HB.o⟩
 have hie:i=B.st.length:=by omega
 have HM1:Hid ((bpre B 2 0++spr (B.st.take i)).length=B.prs.length):=Hd (by rw[hie,List.take_length];rfl);have HSA:Hid (stF B B.st.length):=Hd (by rw[<-hie];exact HSF.o);have hpl:=prs_len HSM.o;rw[HM1.o];clear hie hb hcl HSF HTL HLN HM1 hml2;go_wp2_with fail
 clear c29 HST HF hil hi
 go_loopw [10] (fun i wr=>FoO w s B i wr) (fun i _=>B.ob.length-(intOf i).toNat)
 case atStart=>exact⟨0,by omega,rfl,HB.o,HXX.o,fun j o h=>by omega⟩
 obtain⟨i,hi,rfl,hb,hx,hok⟩:=hrel
 replace HB:=Hd hb;replace HXX:=Hd hx;have HOK:=Hd hok;have c0c:=HCO.o wr hx;clear hb hx hok
 by_cases hil:i<B.ob.length
 ·have k1:(0:Int)<=(i:Int):=by omega
  have k2:(i:Int)<(B.ob.length:Int):=by omega
  obtain⟨b0,off,rfl,hlt,hc⟩:=HFO.o (by omega)
  obtain⟨x,hx⟩:∃x,B.ob[i]? =some x:=⟨_,List.getElem?_eq_getElem hil⟩
  have hd:∀(j:Nat) (u:Value),(oc x)[j]? =some u->wr.cell? ⟨b0,off+(i*12+j),none⟩=some u:=fun j u hu=>(HB.o.cell (p:=⟨b0,off+(i*12+j),none⟩) hlt).trans (hc i _ hx j u hu)
  have d0:wr.cell? ⟨b0,off+i*12,none⟩=some (.int .i64 x.id):=hd 0 _ rfl;have d1:=cA hd 1 rfl;have d2:=cA hd 2 rfl;have d3:=cA hd 3 rfl;have d4:=cA hd 4 rfl;have d5:=cA hd 5 rfl;have d6:=cA hd 6 rfl;have d7:=cA hd 7 rfl;have d8:=cA hd 8 rfl;have d9:=cA hd 9 rfl;have d10:=cA hd 10 rfl;have d11:=cA hd 11 rfl;have HXS:=Hd hx;have hlt2:b0<wr.heap.size:=Nat.lt_of_lt_of_le hlt HB.o.size;have HPV:Hid (∀q,0<i->B.ob[i-1]? =some q->wr.cell? ⟨b0,off+(i-1)*12,none⟩=some (.int .i64 q.id)):=Hd (fun q h0 hq=>(HB.o.cell (p:=⟨b0,off+(i-1)*12,none⟩) hlt).trans (hc (i-1) q hq 0 _ rfl));clear hc hx hd
  go_upto_region 23 with fail
  obtain⟨wq,hwq⟩:∃W,W=wr.alloc (.cells #[.int .i64 x.id,.int .i64 x.cd,.int .i64 x.ow,.int .i64 x.po,.int .i64 x.tg,.int .i64 x.da,.int .i64 x.co,.int .i64 x.pp,.int .i64 x.pt,.bool x.ta,.bool x.si,.bool x.dm] 47):=⟨_,rfl⟩
  rw[<-hwq];have hqb:Below wr.heap.size wr wq:=by rw[hwq];exact(Below.refl _ _).alloc (Nat.le_refl _) _
  have hqs:wq.heap.size=wr.heap.size+1:=by rw[hwq];simp
  have hqc:∀j,wq.cell? ⟨wr.heap.size,j,none⟩=(#[.int .i64 x.id,.int .i64 x.cd,.int .i64 x.ow,.int .i64 x.po,.int .i64 x.tg,.int .i64 x.da,.int .i64 x.co,.int .i64 x.pp,.int .i64 x.pt,.bool x.ta,.bool x.si,.bool x.dm]:Array Value)[j]? :=fun j=>by rw[hwq];exact cell_of_row _ _ j _ 47 (0,0) (heap_alloc_new _ _)
  have hqf:∀j,wq.frozen? ⟨wr.heap.size,j,none⟩=false:=fun j=>by rw[hwq];exact World.frozen?_alloc_new _ _ _ _
  clear hwq;have hpf:∀W,Bx W w.heap.size s B->W.frozen? ⟨w.heap.size,0,none⟩=false:=fun W h=>by unfold World.frozen?;rw[show W.heap[w.heap.size]? =_ from h];simp
  have HLT:Hid (w.heap.size<wr.heap.size):=Hd HXX.o.lt;replace HB:=Hd (below_via HB.o hqb);replace HXX:=Hd (HXX.o.below hqb)
  obtain⟨n0,hn0⟩:∃n,n=wr.heap.size:=⟨_,rfl⟩
  rw[<-hn0] at hqs hqc hqf HLT hlt2 ⊢
  have HK0:Hid (Kept w.heap.size w (n0+1) [(w.heap.size,0,.slice (some ⟨b0,off,none⟩) B.ob.length c1),(n0,0,.int .i64 x.id),(n0,1,.int .i64 x.cd),(n0,2,.int .i64 x.ow),(n0,3,.int .i64 x.po),(n0,4,.int .i64 x.tg),(n0,5,.int .i64 x.da),(n0,6,.int .i64 x.co),(n0,7,.int .i64 x.pp),(n0,8,.int .i64 x.pt),(n0,9,.bool x.ta),(n0,10,.bool x.si),(n0,11,.bool x.dm)] wq):=Hd ⟨HB.o,by omega,by
   have e1:=HCO.o wq HXX.o;have e2:=hpf wq HXX.o;have e3:=HLT.o;intro y hy;simp only[List.mem_cons,List.not_mem_nil,or_false] at hy
   rcases hy with rfl|rfl|rfl|rfl|rfl|rfl|rfl|rfl|rfl|rfl|rfl|rfl|rfl
   ·exact⟨by show w.heap.size<n0+1;omega,e1,e2⟩
   all_goals exact⟨by show n0<n0+1;omega,hqc _,hqf _⟩⟩
  replace HPV:Hid (∀q,0<i->B.ob[i-1]? =some q->b0<wq.heap.size/\wq.cell? ⟨b0,off+(i-1)*12,none⟩=some (.int .i64 q.id)):=Hd (fun q h0 hq=>⟨by omega,(hqb.cell (p:=⟨b0,off+(i-1)*12,none⟩) (by show b0<wr.heap.size;omega)).trans (HPV.o q h0 hq)⟩);have hlt0:w.heap.size<=n0:=by have:=HLT.o;omega
  clear hqb hqs hqc hqf hn0 hlt2 hlt hpf d0 d1 d2 d3 d4 d5 d6 d7 d8 d9 d10 d11 c0c;refine rg25_23_ok (by kernel_rfl) (fun hB23=> ?_);have HNO:Hid (¬okF B i x->¬Fnd B):=Hd (fun h hp=>h (hp.ob i x HXS.o))
  have HYE:Hid (okF B i x->∀j o,j<i+1->B.ob[j]? =some o->okF B j o):=Hd (fun h j o hj ho=>by
   rcases Nat.lt_or_ge j i with h1|h1
   ·exact HOK.o j o h1 ho
   obtain rfl:j=i:=by omega
   have:=ho.symm.trans HXS.o
   simp at this
   rw[this];exact h)
  have zlt:∀n:Nat,n=0->decide (n>0)=false/\decide ((n:Int)>0)=false:=fun n h=>by subst h;exact⟨rfl,rfl⟩
  have zgt:∀n:Nat,0<n->decide (n>0)=true/\decide ((n:Int)>0)=true:=fun n h=>⟨decide_eq_true h,decide_eq_true (by omega)⟩
  have HPS:Hid (vO x=true->∀W,BdR W s B->Calls Tryz.prog 45 #[bv s B,.int .i64 x.ow,.int .i64 x.id] W fun e w' =>e= .returned (.int .i64 (B.prs.count (x.id,x.ow):Nat))/\Below W.heap.size W w'):=Hd (fun h W hW=>places s B x.ow x.ow.toNat x.id W hW HSM.o (by have:=vO_ow h;omega) (by have:=vO_ow h;omega) HTR.o)
  cases hvx:vO x
  ·have HV:=Hd hvx
   clear hvx;have HN:Hid (¬Fnd B):=Hd (HNO.o (fun h=>by have:=h.1;rw[HV.o] at this;cases this));refine rg25_23 (w0:=w) (B:=w.heap.size) (n:=n0+1) (L:=[(w.heap.size,0,.slice (some ⟨b0,off,none⟩) B.ob.length c1),(n0,0,.int .i64 x.id),(n0,1,.int .i64 x.cd),(n0,2,.int .i64 x.ow),(n0,3,.int .i64 x.po),(n0,4,.int .i64 x.tg),(n0,5,.int .i64 x.da),(n0,6,.int .i64 x.co),(n0,7,.int .i64 x.pp),(n0,8,.int .i64 x.pt),(n0,9,.bool x.ta),(n0,10,.bool x.si),(n0,11,.bool x.dm)]) (E:=fun _=>True) (F:=fun W=>Bx W w.heap.size s B) (by kernel_rfl) rfl hB23 ⟨(HK0.o.step (by omega) (by go_grown)),trivial,fun _ _ _ _=>trivial,HXX.o,fun _ _ h hb=>h.below hb⟩ (fun w1 K_w1 E_w1 F_w1=> ?_);have _ne:Nonempty (KX (w.heap.size) w (n0+1) [(w.heap.size,0,.slice (some ⟨b0,off,none⟩) B.ob.length c1),(n0,0,.int .i64 x.id),(n0,1,.int .i64 x.cd),(n0,2,.int .i64 x.ow),(n0,3,.int .i64 x.po),(n0,4,.int .i64 x.tg),(n0,5,.int .i64 x.da),(n0,6,.int .i64 x.co),(n0,7,.int .i64 x.pp),(n0,8,.int .i64 x.pt),(n0,9,.bool x.ta),(n0,10,.bool x.si),(n0,11,.bool x.dm)] (fun _=>True)):=⟨⟨_,K_w1,E_w1⟩⟩;have rP0:=rcx _ne 0 rfl;have rN0:=rcx _ne 1 rfl;have rN1:=rcx _ne 2 rfl;have rN2:=rcx _ne 3 rfl;have rN3:=rcx _ne 4 rfl;have rN4:=rcx _ne 5 rfl;have rN5:=rcx _ne 6 rfl;have rN6:=rcx _ne 7 rfl;have rN7:=rcx _ne 8 rfl;have rN8:=rcx _ne 9 rfl;have rN9:=rcx _ne 10 rfl;have rN10:=rcx _ne 11 rfl;have rN11:=rcx _ne 12 rfl
   repeat (go_big_quiet_step (fail))
   refine wpQuiet_nil ?_;have KH_w1:=Hd K_w1;have hw_w1:=K_w1.below;have hz_w1:=K_w1.size;have lP_w1:w.heap.size<w1.heap.size:=by omega
   have lN_w1:n0<w1.heap.size:=by omega
   clear K_w1;have HX:=Hd (F_w1);clear E_w1 F_w1
   refine⟨fun K hK0=> ?_,trivial⟩
   have hK:=Hd hK0;clear hK0;go_wp2_with fail
   with_reducible refine(rvalidc x false _ HV.o).mono ?_
   rintro e w2 ⟨rfl,hb_w2⟩;have K_w2:=(KH_w1.o.step (by omega) (by go_grown)).step (by omega) hb_w2;replace HX:=Hd (HX.o.below hb_w2);clear hb_w2;have KH_w2:=Hd K_w2;have hw_w2:=K_w2.below;have hz_w2:=K_w2.size;have lP_w2:w.heap.size<w2.heap.size:=by omega
   have lN_w2:n0<w2.heap.size:=by omega
   clear lP_w1 lN_w1;clear K_w2;go_wp2_with fail
   first|refine⟨rfl,?u,hK.o _ _ ?_⟩|refine⟨?u,hK.o _ _ ?_⟩
   case u=>exact⟨⟨_,KH_w2.o,trivial⟩,rfl⟩
   clear hK K
   repeat (go_big_quiet_step (fail))
   refine wpQuiet_nil ?_
   repeat (go_big_quiet_step (fail))
   refine wpQuiet_nil ?_
   repeat (go_big_quiet_step (fail))
   refine wpQuiet_nil ?_
   repeat (go_big_quiet_step (fail))
   refine wpQuiet_nil ?_
   repeat (go_big_quiet_step (fail))
   refine wpQuiet_nil ?_
   repeat (go_big_quiet_step (fail))
   refine wpQuiet_nil ?_
   refine⟨fun K hK0=> ?_,trivial⟩
   have hK:=Hd hK0;clear hK0;go_wp2_with fail
   first|refine⟨rfl,?u,hK.o _ _ ?_⟩|refine⟨?u,hK.o _ _ ?_⟩
   case u=>exact⟨⟨_,KH_w2.o,trivial⟩,rfl⟩
   clear hK K
   refine⟨fun K hK0=> ?_,trivial⟩
   have hK:=Hd hK0;clear hK0;go_wp2_with fail
   first|refine⟨rfl,hK.o _ _ ?_⟩|refine hK.o _ _ ?_
   clear hK K
   repeat (go_big_quiet_step (fail))
   refine wpQuiet_nil ?_;clear rP0 rN0 rN1 rN2 rN3 rN4 rN5 rN6 rN7 rN8 rN9 rN10 rN11;clear _ne;go_wp2_with fail
   have HBL:=KH_w2.o.below;go_returns
   exact⟨⟨false,rfl,⟨fun h=>(by cases h),fun h=>absurd h HN.o⟩⟩,HBL⟩
  have HV:=Hd hvx;clear hvx;replace HPS:=Hd (HPS.o HV.o)
  obtain⟨c,hc⟩:∃c,B.prs.count (x.id,x.ow)=c:=⟨_,rfl⟩
  rw[hc] at HPS
  have HC:=Hd hc;clear hc
  by_cases hi0:i=0
  ·obtain⟨z1,z2⟩:=zlt i hi0
   have HRI:Hid (rise B.ob i x):=Hd (fun j q hj=>by omega);clear hi0
   by_cases hc1:c=1
   ·have z4:((c:Int)==1)=true:=by simp[hc1]
    have z5:(c==1)=true:=by simp[hc1]
    have HY:Hid (okF B i x):=Hd ⟨HV.o,HRI.o,HC.o.trans hc1⟩;clear hc1;refine rg25_23 (w0:=w) (B:=w.heap.size) (n:=n0+1) (L:=[(w.heap.size,0,.slice (some ⟨b0,off,none⟩) B.ob.length c1),(n0,0,.int .i64 x.id),(n0,1,.int .i64 x.cd),(n0,2,.int .i64 x.ow),(n0,3,.int .i64 x.po),(n0,4,.int .i64 x.tg),(n0,5,.int .i64 x.da),(n0,6,.int .i64 x.co),(n0,7,.int .i64 x.pp),(n0,8,.int .i64 x.pt),(n0,9,.bool x.ta),(n0,10,.bool x.si),(n0,11,.bool x.dm)]) (E:=fun _=>True) (F:=fun W=>Bx W w.heap.size s B) (by kernel_rfl) rfl hB23 ⟨(HK0.o.step (by omega) (by go_grown)),trivial,fun _ _ _ _=>trivial,HXX.o,fun _ _ h hb=>h.below hb⟩ (fun w1 K_w1 E_w1 F_w1=> ?_);have _ne:Nonempty (KX (w.heap.size) w (n0+1) [(w.heap.size,0,.slice (some ⟨b0,off,none⟩) B.ob.length c1),(n0,0,.int .i64 x.id),(n0,1,.int .i64 x.cd),(n0,2,.int .i64 x.ow),(n0,3,.int .i64 x.po),(n0,4,.int .i64 x.tg),(n0,5,.int .i64 x.da),(n0,6,.int .i64 x.co),(n0,7,.int .i64 x.pp),(n0,8,.int .i64 x.pt),(n0,9,.bool x.ta),(n0,10,.bool x.si),(n0,11,.bool x.dm)] (fun _=>True)):=⟨⟨_,K_w1,E_w1⟩⟩;have rP0:=rcx _ne 0 rfl;have rN0:=rcx _ne 1 rfl;have rN1:=rcx _ne 2 rfl;have rN2:=rcx _ne 3 rfl;have rN3:=rcx _ne 4 rfl;have rN4:=rcx _ne 5 rfl;have rN5:=rcx _ne 6 rfl;have rN6:=rcx _ne 7 rfl;have rN7:=rcx _ne 8 rfl;have rN8:=rcx _ne 9 rfl;have rN9:=rcx _ne 10 rfl;have rN10:=rcx _ne 11 rfl;have rN11:=rcx _ne 12 rfl
    repeat (go_big_quiet_step (fail))
    refine wpQuiet_nil ?_;have KH_w1:=Hd K_w1;have hw_w1:=K_w1.below;have hz_w1:=K_w1.size;have lP_w1:w.heap.size<w1.heap.size:=by omega
    have lN_w1:n0<w1.heap.size:=by omega
    clear K_w1;have HX:=Hd (F_w1);clear E_w1 F_w1
    refine⟨fun K hK0=> ?_,trivial⟩
    have hK:=Hd hK0;clear hK0;go_wp2_with fail
    with_reducible refine(rvalidc x true _ HV.o).mono ?_
    rintro e w2 ⟨rfl,hb_w2⟩;have K_w2:=(KH_w1.o.step (by omega) (by go_grown)).step (by omega) hb_w2;replace HX:=Hd (HX.o.below hb_w2);clear hb_w2;have KH_w2:=Hd K_w2;have hw_w2:=K_w2.below;have hz_w2:=K_w2.size;have lP_w2:w.heap.size<w2.heap.size:=by omega
    have lN_w2:n0<w2.heap.size:=by omega
    clear lP_w1 lN_w1;clear K_w2;go_wp2_with fail
    first|refine⟨rfl,?u,hK.o _ _ ?_⟩|refine⟨?u,hK.o _ _ ?_⟩
    case u=>exact⟨⟨_,KH_w2.o,trivial⟩,rfl⟩
    clear hK K
    repeat (go_big_quiet_step (fail))
    refine wpQuiet_nil ?_
    repeat (go_big_quiet_step (fail))
    refine wpQuiet_nil ?_
    repeat (go_big_quiet_step (fail))
    refine wpQuiet_nil ?_
    repeat (go_big_quiet_step (fail))
    refine wpQuiet_nil ?_
    repeat (go_big_quiet_step (fail))
    refine wpQuiet_nil ?_
    repeat (go_big_quiet_step (fail))
    refine wpQuiet_nil ?_
    refine⟨fun K hK0=> ?_,trivial⟩
    have hK:=Hd hK0;clear hK0;go_wp2_with (refine wpList_load_bx _ rfl rfl HX.o (by kernel_rfl) ?_)
    first|refine⟨rfl,?u,hK.o _ _ ?_⟩|refine⟨?u,hK.o _ _ ?_⟩
    case u=>exact⟨⟨_,KH_w2.o,trivial⟩,rfl⟩
    clear hK K
    refine⟨fun K hK0=> ?_,trivial⟩
    have hK:=Hd hK0;clear hK0;go_wp2_with fail
    with_reducible refine(HPS.o _ (HR.o.below KH_w2.o.below)).mono ?_
    rintro e w3 ⟨rfl,hb_w3⟩;have K_w3:=(KH_w2.o.step (by omega) (by go_grown)).step (by omega) hb_w3;replace HX:=Hd (HX.o.below hb_w3);clear hb_w3;have KH_w3:=Hd K_w3;have hw_w3:=K_w3.below;have hz_w3:=K_w3.size;have lP_w3:w.heap.size<w3.heap.size:=by omega
    have lN_w3:n0<w3.heap.size:=by omega
    clear lP_w2 lN_w2;clear K_w3;go_wp2_with fail
    first|refine⟨rfl,hK.o _ _ ?_⟩|refine hK.o _ _ ?_
    clear hK K
    repeat (go_big_quiet_step (fail))
    refine wpQuiet_nil ?_;clear rP0 rN0 rN1 rN2 rN3 rN4 rN5 rN6 rN7 rN8 rN9 rN10 rN11;clear _ne;go_wp2_with fail
    have HBL:=KH_w3.o.below
    go_roundw
    case rel=>exact⟨i+1,by omega,by go_num,HBL,HX.o,HYE.o HY.o⟩
    case measure=>simp[intOf];omega
   have z4:((c:Int)==1)=false:=beq_false_of_ne (by omega);have z5:(c==1)=false:=beq_false_of_ne hc1;have HN:Hid (¬Fnd B):=Hd (HNO.o (fun h=>hc1 (HC.o.symm.trans h.2.2)));clear hc1;refine rg25_23 (w0:=w) (B:=w.heap.size) (n:=n0+1) (L:=[(w.heap.size,0,.slice (some ⟨b0,off,none⟩) B.ob.length c1),(n0,0,.int .i64 x.id),(n0,1,.int .i64 x.cd),(n0,2,.int .i64 x.ow),(n0,3,.int .i64 x.po),(n0,4,.int .i64 x.tg),(n0,5,.int .i64 x.da),(n0,6,.int .i64 x.co),(n0,7,.int .i64 x.pp),(n0,8,.int .i64 x.pt),(n0,9,.bool x.ta),(n0,10,.bool x.si),(n0,11,.bool x.dm)]) (E:=fun _=>True) (F:=fun W=>Bx W w.heap.size s B) (by kernel_rfl) rfl hB23 ⟨(HK0.o.step (by omega) (by go_grown)),trivial,fun _ _ _ _=>trivial,HXX.o,fun _ _ h hb=>h.below hb⟩ (fun w1 K_w1 E_w1 F_w1=> ?_);have _ne:Nonempty (KX (w.heap.size) w (n0+1) [(w.heap.size,0,.slice (some ⟨b0,off,none⟩) B.ob.length c1),(n0,0,.int .i64 x.id),(n0,1,.int .i64 x.cd),(n0,2,.int .i64 x.ow),(n0,3,.int .i64 x.po),(n0,4,.int .i64 x.tg),(n0,5,.int .i64 x.da),(n0,6,.int .i64 x.co),(n0,7,.int .i64 x.pp),(n0,8,.int .i64 x.pt),(n0,9,.bool x.ta),(n0,10,.bool x.si),(n0,11,.bool x.dm)] (fun _=>True)):=⟨⟨_,K_w1,E_w1⟩⟩;have rP0:=rcx _ne 0 rfl;have rN0:=rcx _ne 1 rfl;have rN1:=rcx _ne 2 rfl;have rN2:=rcx _ne 3 rfl;have rN3:=rcx _ne 4 rfl;have rN4:=rcx _ne 5 rfl;have rN5:=rcx _ne 6 rfl;have rN6:=rcx _ne 7 rfl;have rN7:=rcx _ne 8 rfl;have rN8:=rcx _ne 9 rfl;have rN9:=rcx _ne 10 rfl;have rN10:=rcx _ne 11 rfl;have rN11:=rcx _ne 12 rfl
   repeat (go_big_quiet_step (fail))
   refine wpQuiet_nil ?_;have KH_w1:=Hd K_w1;have hw_w1:=K_w1.below;have hz_w1:=K_w1.size;have lP_w1:w.heap.size<w1.heap.size:=by omega
   have lN_w1:n0<w1.heap.size:=by omega
   clear K_w1;have HX:=Hd (F_w1);clear E_w1 F_w1
   refine⟨fun K hK0=> ?_,trivial⟩
   have hK:=Hd hK0;clear hK0;go_wp2_with fail
   with_reducible refine(rvalidc x true _ HV.o).mono ?_
   rintro e w2 ⟨rfl,hb_w2⟩;have K_w2:=(KH_w1.o.step (by omega) (by go_grown)).step (by omega) hb_w2;replace HX:=Hd (HX.o.below hb_w2);clear hb_w2;have KH_w2:=Hd K_w2;have hw_w2:=K_w2.below;have hz_w2:=K_w2.size;have lP_w2:w.heap.size<w2.heap.size:=by omega
   have lN_w2:n0<w2.heap.size:=by omega
   clear lP_w1 lN_w1;clear K_w2;go_wp2_with fail
   first|refine⟨rfl,?u,hK.o _ _ ?_⟩|refine⟨?u,hK.o _ _ ?_⟩
   case u=>exact⟨⟨_,KH_w2.o,trivial⟩,rfl⟩
   clear hK K
   repeat (go_big_quiet_step (fail))
   refine wpQuiet_nil ?_
   repeat (go_big_quiet_step (fail))
   refine wpQuiet_nil ?_
   repeat (go_big_quiet_step (fail))
   refine wpQuiet_nil ?_
   repeat (go_big_quiet_step (fail))
   refine wpQuiet_nil ?_
   repeat (go_big_quiet_step (fail))
   refine wpQuiet_nil ?_
   repeat (go_big_quiet_step (fail))
   refine wpQuiet_nil ?_
   refine⟨fun K hK0=> ?_,trivial⟩
   have hK:=Hd hK0;clear hK0;go_wp2_with (refine wpList_load_bx _ rfl rfl HX.o (by kernel_rfl) ?_)
   first|refine⟨rfl,?u,hK.o _ _ ?_⟩|refine⟨?u,hK.o _ _ ?_⟩
   case u=>exact⟨⟨_,KH_w2.o,trivial⟩,rfl⟩
   clear hK K
   refine⟨fun K hK0=> ?_,trivial⟩
   have hK:=Hd hK0;clear hK0;go_wp2_with fail
   with_reducible refine(HPS.o _ (HR.o.below KH_w2.o.below)).mono ?_
   rintro e w3 ⟨rfl,hb_w3⟩;have K_w3:=(KH_w2.o.step (by omega) (by go_grown)).step (by omega) hb_w3;replace HX:=Hd (HX.o.below hb_w3);clear hb_w3;have KH_w3:=Hd K_w3;have hw_w3:=K_w3.below;have hz_w3:=K_w3.size;have lP_w3:w.heap.size<w3.heap.size:=by omega
   have lN_w3:n0<w3.heap.size:=by omega
   clear lP_w2 lN_w2;clear K_w3;go_wp2_with fail
   first|refine⟨rfl,hK.o _ _ ?_⟩|refine hK.o _ _ ?_
   clear hK K
   repeat (go_big_quiet_step (fail))
   refine wpQuiet_nil ?_;clear rP0 rN0 rN1 rN2 rN3 rN4 rN5 rN6 rN7 rN8 rN9 rN10 rN11;clear _ne;go_wp2_with fail
   have HBL:=KH_w3.o.below;go_returns
   exact⟨⟨false,rfl,⟨fun h=>(by cases h),fun h=>absurd h HN.o⟩⟩,HBL⟩
  have hi1:0<i:=by omega
  obtain⟨z1,z2⟩:=zgt i hi1
  obtain⟨q,hq⟩:∃q,B.ob[i-1]? =some q:=⟨_,List.getElem?_eq_getElem (by omega)⟩
  have HPE:=Hd (HPV.o q hi1 hq);have hwi:wrap64 ((i:Int)-1)=((i-1:Nat):Int):=by unfold wrap64;omega
  have k3:(0:Int)<=((i-1:Nat):Int):=by omega
  have k4:((i-1:Nat):Int)<(B.ob.length:Int):=by omega
  have HQ:=Hd hq;have HI1:=Hd hi1;clear hq hi0
  by_cases hge:q.id>=x.id
  ·have z3:decide (q.id>=x.id)=true:=decide_eq_true hge
   have HN:Hid (¬Fnd B):=Hd (HNO.o (fun h=>by have:=h.2.1 (i-1) q (by omega) HQ.o;omega));clear hge;refine rg25_23 (w0:=w) (B:=w.heap.size) (n:=n0+1) (L:=[(w.heap.size,0,.slice (some ⟨b0,off,none⟩) B.ob.length c1),(n0,0,.int .i64 x.id),(n0,1,.int .i64 x.cd),(n0,2,.int .i64 x.ow),(n0,3,.int .i64 x.po),(n0,4,.int .i64 x.tg),(n0,5,.int .i64 x.da),(n0,6,.int .i64 x.co),(n0,7,.int .i64 x.pp),(n0,8,.int .i64 x.pt),(n0,9,.bool x.ta),(n0,10,.bool x.si),(n0,11,.bool x.dm)]) (E:=fun W=>b0<W.heap.size/\W.cell? ⟨b0,off+(i-1)*12,none⟩=some (.int .i64 q.id)) (F:=fun W=>Bx W w.heap.size s B) (by kernel_rfl) rfl hB23 ⟨(HK0.o.step (by omega) (by go_grown)),HPE.o,fun _ _ h hb=>⟨Nat.lt_of_lt_of_le h.1 hb.size,(hb.cell (p:=⟨b0,off+(i-1)*12,none⟩) h.1).trans h.2⟩,HXX.o,fun _ _ h hb=>h.below hb⟩ (fun w1 K_w1 E_w1 F_w1=> ?_);have _ne:Nonempty (KX (w.heap.size) w (n0+1) [(w.heap.size,0,.slice (some ⟨b0,off,none⟩) B.ob.length c1),(n0,0,.int .i64 x.id),(n0,1,.int .i64 x.cd),(n0,2,.int .i64 x.ow),(n0,3,.int .i64 x.po),(n0,4,.int .i64 x.tg),(n0,5,.int .i64 x.da),(n0,6,.int .i64 x.co),(n0,7,.int .i64 x.pp),(n0,8,.int .i64 x.pt),(n0,9,.bool x.ta),(n0,10,.bool x.si),(n0,11,.bool x.dm)] (fun W=>b0<W.heap.size/\W.cell? ⟨b0,off+(i-1)*12,none⟩=some (.int .i64 q.id))):=⟨⟨_,K_w1,E_w1⟩⟩;have rP0:=rcx _ne 0 rfl;have rN0:=rcx _ne 1 rfl;have rN1:=rcx _ne 2 rfl;have rN2:=rcx _ne 3 rfl;have rN3:=rcx _ne 4 rfl;have rN4:=rcx _ne 5 rfl;have rN5:=rcx _ne 6 rfl;have rN6:=rcx _ne 7 rfl;have rN7:=rcx _ne 8 rfl;have rN8:=rcx _ne 9 rfl;have rN9:=rcx _ne 10 rfl;have rN10:=rcx _ne 11 rfl;have rN11:=rcx _ne 12 rfl;have rpv:∀s:KX (w.heap.size) w (n0+1) [(w.heap.size,0,.slice (some ⟨b0,off,none⟩) B.ob.length c1),(n0,0,.int .i64 x.id),(n0,1,.int .i64 x.cd),(n0,2,.int .i64 x.ow),(n0,3,.int .i64 x.po),(n0,4,.int .i64 x.tg),(n0,5,.int .i64 x.da),(n0,6,.int .i64 x.co),(n0,7,.int .i64 x.pp),(n0,8,.int .i64 x.pt),(n0,9,.bool x.ta),(n0,10,.bool x.si),(n0,11,.bool x.dm)] (fun W=>b0<W.heap.size/\W.cell? ⟨b0,off+(i-1)*12,none⟩=some (.int .i64 q.id)),s.val.cell? ⟨b0,off+(i-1)*12,none⟩=some (.int .i64 q.id):=fun s=>s.ex.2
   repeat (go_big_quiet_step (fail))
   refine wpQuiet_nil ?_;have KH_w1:=Hd K_w1;have hw_w1:=K_w1.below;have hz_w1:=K_w1.size;have lP_w1:w.heap.size<w1.heap.size:=by omega
   have lN_w1:n0<w1.heap.size:=by omega
   clear K_w1;have HE:=Hd E_w1;have HX:=Hd (F_w1);clear E_w1 F_w1
   refine⟨fun K hK0=> ?_,trivial⟩
   have hK:=Hd hK0;clear hK0;go_wp2_with fail
   with_reducible refine(rvalidc x true _ HV.o).mono ?_
   rintro e w2 ⟨rfl,hb_w2⟩;have K_w2:=(KH_w1.o.step (by omega) (by go_grown)).step (by omega) hb_w2;replace HX:=Hd (HX.o.below hb_w2);replace HE:=Hd (And.intro (Nat.lt_of_lt_of_le HE.o.1 hb_w2.size) ((hb_w2.cell (p:=⟨b0,off+(i-1)*12,none⟩) HE.o.1).trans HE.o.2));clear hb_w2;have KH_w2:=Hd K_w2;have hw_w2:=K_w2.below;have hz_w2:=K_w2.size;have lP_w2:w.heap.size<w2.heap.size:=by omega
   have lN_w2:n0<w2.heap.size:=by omega
   clear lP_w1 lN_w1;clear K_w2;go_wp2_with fail
   first|refine⟨rfl,?u,hK.o _ _ ?_⟩|refine⟨?u,hK.o _ _ ?_⟩
   case u=>exact⟨⟨_,KH_w2.o,HE.o⟩,rfl⟩
   clear hK K
   repeat (go_big_quiet_step (fail))
   refine wpQuiet_nil ?_
   repeat (go_big_quiet_step (fail))
   refine wpQuiet_nil ?_
   repeat (go_big_quiet_step (fail))
   refine wpQuiet_nil ?_
   repeat (go_big_quiet_step (fail))
   refine wpQuiet_nil ?_
   repeat (go_big_quiet_step (fail))
   refine wpQuiet_nil ?_
   repeat (go_big_quiet_step (fail))
   refine wpQuiet_nil ?_
   refine⟨fun K hK0=> ?_,trivial⟩
   have hK:=Hd hK0;clear hK0;go_wp2_with fail
   first|refine⟨rfl,?u,hK.o _ _ ?_⟩|refine⟨?u,hK.o _ _ ?_⟩
   case u=>exact⟨⟨_,KH_w2.o,HE.o⟩,rfl⟩
   clear hK K
   refine⟨fun K hK0=> ?_,trivial⟩
   have hK:=Hd hK0;clear hK0;go_wp2_with fail
   first|refine⟨rfl,hK.o _ _ ?_⟩|refine hK.o _ _ ?_
   clear hK K
   repeat (go_big_quiet_step (fail))
   refine wpQuiet_nil ?_;clear rP0 rN0 rN1 rN2 rN3 rN4 rN5 rN6 rN7 rN8 rN9 rN10 rN11 rpv;clear _ne;go_wp2_with fail
   have HBL:=KH_w2.o.below;go_returns
   exact⟨⟨false,rfl,⟨fun h=>(by cases h),fun h=>absurd h HN.o⟩⟩,HBL⟩
  have z3:decide (q.id>=x.id)=false:=decide_eq_false hge
  have HRI:Hid (rise B.ob i x):=Hd (fun j y hj hy=>by
   have e:j=i-1:=by omega
   rw[e,HQ.o] at hy
   simp at hy
   rw[<-hy];omega)
  clear hge
  by_cases hc1:c=1
  ·have z4:((c:Int)==1)=true:=by simp[hc1]
   have z5:(c==1)=true:=by simp[hc1]
   have HY:Hid (okF B i x):=Hd ⟨HV.o,HRI.o,HC.o.trans hc1⟩;clear hc1;refine rg25_23 (w0:=w) (B:=w.heap.size) (n:=n0+1) (L:=[(w.heap.size,0,.slice (some ⟨b0,off,none⟩) B.ob.length c1),(n0,0,.int .i64 x.id),(n0,1,.int .i64 x.cd),(n0,2,.int .i64 x.ow),(n0,3,.int .i64 x.po),(n0,4,.int .i64 x.tg),(n0,5,.int .i64 x.da),(n0,6,.int .i64 x.co),(n0,7,.int .i64 x.pp),(n0,8,.int .i64 x.pt),(n0,9,.bool x.ta),(n0,10,.bool x.si),(n0,11,.bool x.dm)]) (E:=fun W=>b0<W.heap.size/\W.cell? ⟨b0,off+(i-1)*12,none⟩=some (.int .i64 q.id)) (F:=fun W=>Bx W w.heap.size s B) (by kernel_rfl) rfl hB23 ⟨(HK0.o.step (by omega) (by go_grown)),HPE.o,fun _ _ h hb=>⟨Nat.lt_of_lt_of_le h.1 hb.size,(hb.cell (p:=⟨b0,off+(i-1)*12,none⟩) h.1).trans h.2⟩,HXX.o,fun _ _ h hb=>h.below hb⟩ (fun w1 K_w1 E_w1 F_w1=> ?_);have _ne:Nonempty (KX (w.heap.size) w (n0+1) [(w.heap.size,0,.slice (some ⟨b0,off,none⟩) B.ob.length c1),(n0,0,.int .i64 x.id),(n0,1,.int .i64 x.cd),(n0,2,.int .i64 x.ow),(n0,3,.int .i64 x.po),(n0,4,.int .i64 x.tg),(n0,5,.int .i64 x.da),(n0,6,.int .i64 x.co),(n0,7,.int .i64 x.pp),(n0,8,.int .i64 x.pt),(n0,9,.bool x.ta),(n0,10,.bool x.si),(n0,11,.bool x.dm)] (fun W=>b0<W.heap.size/\W.cell? ⟨b0,off+(i-1)*12,none⟩=some (.int .i64 q.id))):=⟨⟨_,K_w1,E_w1⟩⟩;have rP0:=rcx _ne 0 rfl;have rN0:=rcx _ne 1 rfl;have rN1:=rcx _ne 2 rfl;have rN2:=rcx _ne 3 rfl;have rN3:=rcx _ne 4 rfl;have rN4:=rcx _ne 5 rfl;have rN5:=rcx _ne 6 rfl;have rN6:=rcx _ne 7 rfl;have rN7:=rcx _ne 8 rfl;have rN8:=rcx _ne 9 rfl;have rN9:=rcx _ne 10 rfl;have rN10:=rcx _ne 11 rfl;have rN11:=rcx _ne 12 rfl;have rpv:∀s:KX (w.heap.size) w (n0+1) [(w.heap.size,0,.slice (some ⟨b0,off,none⟩) B.ob.length c1),(n0,0,.int .i64 x.id),(n0,1,.int .i64 x.cd),(n0,2,.int .i64 x.ow),(n0,3,.int .i64 x.po),(n0,4,.int .i64 x.tg),(n0,5,.int .i64 x.da),(n0,6,.int .i64 x.co),(n0,7,.int .i64 x.pp),(n0,8,.int .i64 x.pt),(n0,9,.bool x.ta),(n0,10,.bool x.si),(n0,11,.bool x.dm)] (fun W=>b0<W.heap.size/\W.cell? ⟨b0,off+(i-1)*12,none⟩=some (.int .i64 q.id)),s.val.cell? ⟨b0,off+(i-1)*12,none⟩=some (.int .i64 q.id):=fun s=>s.ex.2
   repeat (go_big_quiet_step (fail))
   refine wpQuiet_nil ?_;have KH_w1:=Hd K_w1;have hw_w1:=K_w1.below;have hz_w1:=K_w1.size;have lP_w1:w.heap.size<w1.heap.size:=by omega
   have lN_w1:n0<w1.heap.size:=by omega
   clear K_w1;have HE:=Hd E_w1;have HX:=Hd (F_w1);clear E_w1 F_w1
   refine⟨fun K hK0=> ?_,trivial⟩
   have hK:=Hd hK0;clear hK0;go_wp2_with fail
   with_reducible refine(rvalidc x true _ HV.o).mono ?_
   rintro e w2 ⟨rfl,hb_w2⟩;have K_w2:=(KH_w1.o.step (by omega) (by go_grown)).step (by omega) hb_w2;replace HX:=Hd (HX.o.below hb_w2);replace HE:=Hd (And.intro (Nat.lt_of_lt_of_le HE.o.1 hb_w2.size) ((hb_w2.cell (p:=⟨b0,off+(i-1)*12,none⟩) HE.o.1).trans HE.o.2));clear hb_w2;have KH_w2:=Hd K_w2;have hw_w2:=K_w2.below;have hz_w2:=K_w2.size;have lP_w2:w.heap.size<w2.heap.size:=by omega
   have lN_w2:n0<w2.heap.size:=by omega
   clear lP_w1 lN_w1;clear K_w2;go_wp2_with fail
   first|refine⟨rfl,?u,hK.o _ _ ?_⟩|refine⟨?u,hK.o _ _ ?_⟩
   case u=>exact⟨⟨_,KH_w2.o,HE.o⟩,rfl⟩
   clear hK K
   repeat (go_big_quiet_step (fail))
   refine wpQuiet_nil ?_
   repeat (go_big_quiet_step (fail))
   refine wpQuiet_nil ?_
   repeat (go_big_quiet_step (fail))
   refine wpQuiet_nil ?_
   repeat (go_big_quiet_step (fail))
   refine wpQuiet_nil ?_
   repeat (go_big_quiet_step (fail))
   refine wpQuiet_nil ?_
   repeat (go_big_quiet_step (fail))
   refine wpQuiet_nil ?_
   refine⟨fun K hK0=> ?_,trivial⟩
   have hK:=Hd hK0;clear hK0;go_wp2_with (refine wpList_load_bx _ rfl rfl HX.o (by kernel_rfl) ?_)
   first|refine⟨rfl,?u,hK.o _ _ ?_⟩|refine⟨?u,hK.o _ _ ?_⟩
   case u=>exact⟨⟨_,KH_w2.o,HE.o⟩,rfl⟩
   clear hK K
   refine⟨fun K hK0=> ?_,trivial⟩
   have hK:=Hd hK0;clear hK0;go_wp2_with fail
   with_reducible refine(HPS.o _ (HR.o.below KH_w2.o.below)).mono ?_
   rintro e w3 ⟨rfl,hb_w3⟩;have K_w3:=(KH_w2.o.step (by omega) (by go_grown)).step (by omega) hb_w3;replace HX:=Hd (HX.o.below hb_w3);replace HE:=Hd (And.intro (Nat.lt_of_lt_of_le HE.o.1 hb_w3.size) ((hb_w3.cell (p:=⟨b0,off+(i-1)*12,none⟩) HE.o.1).trans HE.o.2));clear hb_w3;have KH_w3:=Hd K_w3;have hw_w3:=K_w3.below;have hz_w3:=K_w3.size;have lP_w3:w.heap.size<w3.heap.size:=by omega
   have lN_w3:n0<w3.heap.size:=by omega
   clear lP_w2 lN_w2;clear K_w3;go_wp2_with fail
   first|refine⟨rfl,hK.o _ _ ?_⟩|refine hK.o _ _ ?_
   clear hK K
   repeat (go_big_quiet_step (fail))
   refine wpQuiet_nil ?_;clear rP0 rN0 rN1 rN2 rN3 rN4 rN5 rN6 rN7 rN8 rN9 rN10 rN11 rpv;clear _ne;go_wp2_with fail
   have HBL:=KH_w3.o.below
   go_roundw
   case rel=>exact⟨i+1,by omega,by go_num,HBL,HX.o,HYE.o HY.o⟩
   case measure=>simp[intOf];omega
  have z4:((c:Int)==1)=false:=beq_false_of_ne (by omega);have z5:(c==1)=false:=beq_false_of_ne hc1;have HN:Hid (¬Fnd B):=Hd (HNO.o (fun h=>hc1 (HC.o.symm.trans h.2.2)));clear hc1;refine rg25_23 (w0:=w) (B:=w.heap.size) (n:=n0+1) (L:=[(w.heap.size,0,.slice (some ⟨b0,off,none⟩) B.ob.length c1),(n0,0,.int .i64 x.id),(n0,1,.int .i64 x.cd),(n0,2,.int .i64 x.ow),(n0,3,.int .i64 x.po),(n0,4,.int .i64 x.tg),(n0,5,.int .i64 x.da),(n0,6,.int .i64 x.co),(n0,7,.int .i64 x.pp),(n0,8,.int .i64 x.pt),(n0,9,.bool x.ta),(n0,10,.bool x.si),(n0,11,.bool x.dm)]) (E:=fun W=>b0<W.heap.size/\W.cell? ⟨b0,off+(i-1)*12,none⟩=some (.int .i64 q.id)) (F:=fun W=>Bx W w.heap.size s B) (by kernel_rfl) rfl hB23 ⟨(HK0.o.step (by omega) (by go_grown)),HPE.o,fun _ _ h hb=>⟨Nat.lt_of_lt_of_le h.1 hb.size,(hb.cell (p:=⟨b0,off+(i-1)*12,none⟩) h.1).trans h.2⟩,HXX.o,fun _ _ h hb=>h.below hb⟩ (fun w1 K_w1 E_w1 F_w1=> ?_);have _ne:Nonempty (KX (w.heap.size) w (n0+1) [(w.heap.size,0,.slice (some ⟨b0,off,none⟩) B.ob.length c1),(n0,0,.int .i64 x.id),(n0,1,.int .i64 x.cd),(n0,2,.int .i64 x.ow),(n0,3,.int .i64 x.po),(n0,4,.int .i64 x.tg),(n0,5,.int .i64 x.da),(n0,6,.int .i64 x.co),(n0,7,.int .i64 x.pp),(n0,8,.int .i64 x.pt),(n0,9,.bool x.ta),(n0,10,.bool x.si),(n0,11,.bool x.dm)] (fun W=>b0<W.heap.size/\W.cell? ⟨b0,off+(i-1)*12,none⟩=some (.int .i64 q.id))):=⟨⟨_,K_w1,E_w1⟩⟩;have rP0:=rcx _ne 0 rfl;have rN0:=rcx _ne 1 rfl;have rN1:=rcx _ne 2 rfl;have rN2:=rcx _ne 3 rfl;have rN3:=rcx _ne 4 rfl;have rN4:=rcx _ne 5 rfl;have rN5:=rcx _ne 6 rfl;have rN6:=rcx _ne 7 rfl;have rN7:=rcx _ne 8 rfl;have rN8:=rcx _ne 9 rfl;have rN9:=rcx _ne 10 rfl;have rN10:=rcx _ne 11 rfl;have rN11:=rcx _ne 12 rfl;have rpv:∀s:KX (w.heap.size) w (n0+1) [(w.heap.size,0,.slice (some ⟨b0,off,none⟩) B.ob.length c1),(n0,0,.int .i64 x.id),(n0,1,.int .i64 x.cd),(n0,2,.int .i64 x.ow),(n0,3,.int .i64 x.po),(n0,4,.int .i64 x.tg),(n0,5,.int .i64 x.da),(n0,6,.int .i64 x.co),(n0,7,.int .i64 x.pp),(n0,8,.int .i64 x.pt),(n0,9,.bool x.ta),(n0,10,.bool x.si),(n0,11,.bool x.dm)] (fun W=>b0<W.heap.size/\W.cell? ⟨b0,off+(i-1)*12,none⟩=some (.int .i64 q.id)),s.val.cell? ⟨b0,off+(i-1)*12,none⟩=some (.int .i64 q.id):=fun s=>s.ex.2
  repeat (go_big_quiet_step (fail))
  refine wpQuiet_nil ?_;have KH_w1:=Hd K_w1;have hw_w1:=K_w1.below;have hz_w1:=K_w1.size;have lP_w1:w.heap.size<w1.heap.size:=by omega
  have lN_w1:n0<w1.heap.size:=by omega
  clear K_w1;have HE:=Hd E_w1;have HX:=Hd (F_w1);clear E_w1 F_w1
  refine⟨fun K hK0=> ?_,trivial⟩
  have hK:=Hd hK0;clear hK0;go_wp2_with fail
  with_reducible refine(rvalidc x true _ HV.o).mono ?_
  rintro e w2 ⟨rfl,hb_w2⟩;have K_w2:=(KH_w1.o.step (by omega) (by go_grown)).step (by omega) hb_w2;replace HX:=Hd (HX.o.below hb_w2);replace HE:=Hd (And.intro (Nat.lt_of_lt_of_le HE.o.1 hb_w2.size) ((hb_w2.cell (p:=⟨b0,off+(i-1)*12,none⟩) HE.o.1).trans HE.o.2));clear hb_w2;have KH_w2:=Hd K_w2;have hw_w2:=K_w2.below;have hz_w2:=K_w2.size;have lP_w2:w.heap.size<w2.heap.size:=by omega
  have lN_w2:n0<w2.heap.size:=by omega
  clear lP_w1 lN_w1;clear K_w2;go_wp2_with fail
  first|refine⟨rfl,?u,hK.o _ _ ?_⟩|refine⟨?u,hK.o _ _ ?_⟩
  case u=>exact⟨⟨_,KH_w2.o,HE.o⟩,rfl⟩
  clear hK K
  repeat (go_big_quiet_step (fail))
  refine wpQuiet_nil ?_
  repeat (go_big_quiet_step (fail))
  refine wpQuiet_nil ?_
  repeat (go_big_quiet_step (fail))
  refine wpQuiet_nil ?_
  repeat (go_big_quiet_step (fail))
  refine wpQuiet_nil ?_
  repeat (go_big_quiet_step (fail))
  refine wpQuiet_nil ?_
  repeat (go_big_quiet_step (fail))
  refine wpQuiet_nil ?_
  refine⟨fun K hK0=> ?_,trivial⟩
  have hK:=Hd hK0;clear hK0;go_wp2_with (refine wpList_load_bx _ rfl rfl HX.o (by kernel_rfl) ?_)
  first|refine⟨rfl,?u,hK.o _ _ ?_⟩|refine⟨?u,hK.o _ _ ?_⟩
  case u=>exact⟨⟨_,KH_w2.o,HE.o⟩,rfl⟩
  clear hK K
  refine⟨fun K hK0=> ?_,trivial⟩
  have hK:=Hd hK0;clear hK0;go_wp2_with fail
  with_reducible refine(HPS.o _ (HR.o.below KH_w2.o.below)).mono ?_
  rintro e w3 ⟨rfl,hb_w3⟩;have K_w3:=(KH_w2.o.step (by omega) (by go_grown)).step (by omega) hb_w3;replace HX:=Hd (HX.o.below hb_w3);replace HE:=Hd (And.intro (Nat.lt_of_lt_of_le HE.o.1 hb_w3.size) ((hb_w3.cell (p:=⟨b0,off+(i-1)*12,none⟩) HE.o.1).trans HE.o.2));clear hb_w3;have KH_w3:=Hd K_w3;have hw_w3:=K_w3.below;have hz_w3:=K_w3.size;have lP_w3:w.heap.size<w3.heap.size:=by omega
  have lN_w3:n0<w3.heap.size:=by omega
  clear lP_w2 lN_w2;clear K_w3;go_wp2_with fail
  first|refine⟨rfl,hK.o _ _ ?_⟩|refine hK.o _ _ ?_
  clear hK K
  repeat (go_big_quiet_step (fail))
  refine wpQuiet_nil ?_;clear rP0 rN0 rN1 rN2 rN3 rN4 rN5 rN6 rN7 rN8 rN9 rN10 rN11 rpv;clear _ne;go_wp2_with fail
  have HBL:=KH_w3.o.below;go_returns
  exact⟨⟨false,rfl,⟨fun h=>(by cases h),fun h=>absurd h HN.o⟩⟩,HBL⟩
 have hie:i=B.ob.length:=by omega
 rw[hie] at HOK
 clear hie
 have HFIN:Hid ((B.prs.length==B.ob.length)=true↔Fnd B):=Hd (by
  rw[beq_iff_eq]
  refine⟨fun h=>⟨h,fun x hx=>HSA.o x (by rw[List.take_length];exact hx),fun i o ho=>HOK.o i o (List.getElem?_eq_some_iff.1 ho).1 ho⟩,fun h=>h.len⟩)
 obtain⟨r,hr⟩:∃r,(B.prs.length==B.ob.length)=r:=⟨_,rfl⟩
 rw[hr] at HFIN
 have hr2:((B.prs.length:Int)==(B.ob.length:Int))=r:=by rw[<-hr,Bool.eq_iff_iff,beq_iff_eq,beq_iff_eq];omega
 go_wp2_with fail
 go_returns
 exact⟨⟨r,rfl,HFIN.o⟩,HB.o⟩
end Go.Proofs.YtpbepnpnpopmfaaGreat
