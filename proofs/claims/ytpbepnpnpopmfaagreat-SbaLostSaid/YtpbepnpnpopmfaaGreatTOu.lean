/- An object in no place, by the reference. -/
import Derived.Test.YtpbepnpnpopmfaaGreatTPu
import Derived.Test.YtpbepnpnpopmfaaGreatBCx
import Derived.Deep.DeepCutAuto
import Derived.LoopTactic
import Derived.Deep.MidRow
open Go.RowKit Go.Proofs.YtpbepnpnpopmfaaGreat
set_option maxRecDepth 100000
set_option maxHeartbeats 4000000
namespace Go.Proofs.YtpbepnpnpopmfaaGreat
open Plain
set_option linter.unusedVariables false
set_option linter.unusedSimpArgs false

theorem rg50_6{P:Program}{B n:Nat}{w0:World}{L:List (Nat×Nat×Value)}{E F:World->Prop}{id:Nat}{Q:Exit->Act->World->Prop}{a:Act}{w:World}{A:Array Oper}{o0 o1 o2 o3 o4 o5 o6 o7 o8 o9 o10 o11 o12 o13 o14 o15 o16 o17 o18 o19 o20 o21 o22 o23 o24 o25 o26 o27 o28 o29 o30 o31 o32 o33 o34 o35 o36 o37 o38 o39:Oper}(hm:P.follows .mixedOrders=true)(hA:A=(o0::o1::o2::o3::o4::o5::o6::o7::o8::o9::o10::o11::o12::o13::o14::o15::o16::o17::o18::o19::o20::o21::o22::o23::o24::o25::o26::o27::o28::o29::o30::o31::o32::o33::o34::o35::o36::o37::o38::o39::[]).toArray)(hB:regOk A [7,13,19,25] [0,1,2,3,4,5,6,8,10,11,12,14,16,17,18,20,22,23,24,26,28,29,31,32,34,35,37,38] (.fs [0,1,2,3,4,5,6,8,10,11,12,14,16,17,18,20,22,23,24,26] (.rs [7,13,19,25] (.alt 9 (.alt 15 (.alt 21 (.altc 27 (.fs [28,29] (.altc 30 (.fs [31,32] (.altc 33 (.fs [34,35] (.altc 36 (.fs [37,38] (.altc 39 .done .stop)) .stop)) .stop)) .stop)) .stop) .stop) .stop) .stop)))=true)(c:RC B w0 n L E F w)
  (h:∀wk,Kept B w0 n L wk->E wk->F wk->wpQuiet P A (fun _=>True) (fun a0=>wpQuiet P A (fun w' =>∃s:KX B w0 n L E,w' =s.val) (fun a1=>((∀K2:Act->World->Prop,(∀a2 w2,((∀K3:Act->World->Prop,(∀a3 w3,((∀K4:Act->World->Prop,(∀a4 w4,((∀K5:Act->World->Prop,(∀a5 w5,wpQuiet P A (fun _=>True) (fun a6=>((∀K7:Act->World->Prop,(∀a7 w7,wpQuiet P A (fun _=>True) (fun a8=>((∀K9:Act->World->Prop,(∀a9 w9,wpQuiet P A (fun _=>True) (fun a10=>((∀K11:Act->World->Prop,(∀a11 w11,wpQuiet P A (fun _=>True) (fun a12=>((∀K13:Act->World->Prop,(∀a13 w13,Q .normal a13 w13->K13 a13 w13)->wpList P A (fun e a13 w13=>e= .normal/\K13 a13 w13) [o39] a12 w11)/\True)) [o37,o38] a11->K11 a11 w11)->wpList P A (fun e a11 w11=>e= .normal/\K11 a11 w11) [o36] a10 w9)/\True)) [o34,o35] a9->K9 a9 w9)->wpList P A (fun e a9 w9=>e= .normal/\K9 a9 w9) [o33] a8 w7)/\True)) [o31,o32] a7->K7 a7 w7)->wpList P A (fun e a7 w7=>e= .normal/\K7 a7 w7) [o30] a6 w5)/\True)) [o28,o29] a5->K5 a5 w5)->wpList P A (fun e a5 w5=>e= .normal/\K5 a5 w5) [o27] a4 w4)/\True)->K4 a4 w4)->wpList P A (fun e a4 w4=>e= .normal/\(∃s:KX B w0 n L E,w4=s.val)/\K4 a4 w4) [o21] a3 w3)/\True)->K3 a3 w3)->wpList P A (fun e a3 w3=>e= .normal/\(∃s:KX B w0 n L E,w3=s.val)/\K3 a3 w3) [o15] a2 w2)/\True)->K2 a2 w2)->wpList P A (fun e a2 w2=>e= .normal/\(∃s:KX B w0 n L E,w2=s.val)/\K2 a2 w2) [o9] a1 wk)/\True)) [o7,o13,o19,o25] a0) [o0,o1,o2,o3,o4,o5,o6,o8,o10,o11,o12,o14,o16,o17,o18,o20,o22,o23,o24,o26] a):(Code.region id A true).wp P Q a w:=by
 subst hA;exact wp_reg _ _ _ hm hB c (fun wk k e f=>have g:=h wk k e f;Scr.of_fs _ _ rfl g fun _ g=>Scr.of_rs _ _ rfl g fun _ g=>(Scr.of_alt rfl (g.1 _ fun _ _ g=>g) (fun _ _ g=>(Scr.of_alt rfl (g.1 _ fun _ _ g=>g) (fun _ _ g=>(Scr.of_alt rfl (g.1 _ fun _ _ g=>g) (fun _ _ g=>(Scr.of_altc rfl (g.1 _ fun _ _ g=>g) (fun _ _ g=>Scr.of_fs _ _ rfl g fun _ g=>(Scr.of_altc rfl (g.1 _ fun _ _ g=>g) (fun _ _ g=>Scr.of_fs _ _ rfl g fun _ g=>(Scr.of_altc rfl (g.1 _ fun _ _ g=>g) (fun _ _ g=>Scr.of_fs _ _ rfl g fun _ g=>(Scr.of_altc rfl (g.1 _ fun _ _ g=>g) (fun _ _ g=>Scr.of_fs _ _ rfl g fun _ g=>(Scr.of_altc rfl (g.1 _ fun _ _ g=>g) (fun _ _ g=>g) trivial)) trivial)) trivial)) trivial)) trivial)) trivial)) trivial)) trivial))
def Plain.Se.out(S:Se)(n:Int):Se:={S with lib:=wo n S.lib,hand:=wo n S.hand,fld:=wo n S.fld,grv:=wo n S.grv}
def Plain.notIt(n:Int)(x:It):Bool:= !(x.tr== -1)|| !(x.id==n)
def Plain.notBk(n:Int)(x:Bk):Bool:= !(x.bl==n)&& !(x.at' ==n)
def Plain.outB(B:Bd)(n:Int):Bd:={B with s0:=B.s0.out n,s1:=B.s1.out n,st:=B.st.filter (notIt n),att:=wo n B.att,bl:=B.bl.filter (notBk n)}
def Plain.owP(B:Bd)(n:Int)(p:Nat):Bd:=if p=0 then B else if p=1 then {B with s0:=B.s0.out n} else {B with s0:=B.s0.out n,s1:=B.s1.out n}
structure OuP(w:World)(B:Bd)(n:Int)(v:Value)(wr:World):Prop where
 ex:∃(p:Nat) (s':Bs),p<=2/\v= .int .i64 p/\Bx wr w.heap.size s' (owP B n p)/\BdO (w.heap.size+1+1) wr.heap.size wr s' (owP B n p)
 hb:Below w.heap.size w wr
 hz:Bx wr (w.heap.size+1) nilS zeroB
def OuS(W:World)(n:Int)(l:List (It×Sl))(lv i:Value)(wr:World):Prop:=∃(k:Nat) (a:Option Addr) (c m:Nat),k<=l.length/\m=((l.take k).filter (fun y=>notIt n y.1)).length/\i= .int .i64 k/\lv= .slice a m c/\Below W.heap.size W wr/\Ow itc 5 73 wr W.heap.size (.slice a m c) ((l.take k).filter (fun y=>notIt n y.1))
def OuK(W:World)(n:Int)(l:List Bk)(lv i:Value)(wr:World):Prop:=∃(k:Nat) (a:Option Addr) (c m:Nat),k<=l.length/\m=((l.take k).filter (notBk n)).length/\i= .int .i64 k/\lv= .slice a m c/\Below W.heap.size W wr/\Ow kc 2 89 wr W.heap.size (.slice a m c) ((l.take k).filter (notBk n))
theorem map_filtI{l:List (It×Sl)}{p:It->Bool}:(l.filter (fun y=>p y.1)).map Prod.fst=(l.map Prod.fst).filter p:=by
 induction l with
 |nil=>rfl
 |cons a l ih=>
  rw[List.filter_cons,List.map_cons,List.filter_cons]
  by_cases h:p a.1=true
  ·rw[if_pos h,if_pos h,List.map_cons,ih]
  rw[if_neg h,if_neg h,ih]
theorem filt_next{α:Type}{p:α->Bool}{l:List α}{k:Nat}{x:α}(hx:l[k]? =some x):(l.take (k+1)).filter p=(l.take k).filter p++if p x then [x] else []:=by
 rw[List.take_add_one,hx,List.filter_append]
 congr 1
 cases h:p x<;>simp[h]
theorem rout(s:Bs)(B:Bd)(n:Int)(w:World)(h:BdR w s B)(hsm:B.Sm)(htl:B.Tl):Calls Tryz.prog 50 #[bv s B,.int .i64 n] w (CpA w (outB B n)):=by
 have HR:=Hd h;have HSM:=Hd hsm;have HTL:=Hd htl;clear h hsm htl;go_enter Tryz.func50,Tryz.ntmps50
 go_upto_region 1 with fail
 change Code.wp Tryz.prog _ _ _ ((w.alloc (.cells (bcells s B) 34)).alloc (.cells (bcells nilS zeroB) 34))
 obtain⟨wz,hwz⟩:∃W,W=((w.alloc (.cells (bcells s B) 34)).alloc (.cells (bcells nilS zeroB) 34)):=⟨_,rfl⟩
 rw[<-hwz];have b0:Below w.heap.size w (w.alloc (.cells (bcells s B) 34)):=by exact(Below.refl _ _).alloc (Nat.le_refl _) _
 have b1:Below (w.alloc (.cells (bcells s B) 34)).heap.size (w.alloc (.cells (bcells s B) 34)) wz:=by rw[hwz];exact(Below.refl _ _).alloc (Nat.le_refl _) _
 have HB:Hid (Below w.heap.size w wz):=Hd (below_via b0 b1);have HXb:Hid (Bx wz (w.heap.size) s B):=Hd ((Ro.new w (bcells s B) 34).below b1:Ro _ _ _ _);have HXz:Hid (Bx wz (w.heap.size+1) nilS zeroB):=Hd (by rw[show w.heap.size+1=(w.alloc (.cells (bcells s B) 34)).heap.size by simp];exact(by rw[hwz];exact(Ro.new (w.alloc (.cells (bcells s B) 34)) (bcells nilS zeroB) 34)));have HC1:Hid (w.heap.size+2<=wz.heap.size):=Hd (by rw[hwz];simp);clear hwz b0 b1;go_wp2_with (first|(refine wpList_load_bx _ rfl rfl HXb.o (by kernel_rfl) ?_))
 with_reducible refine(rcopy s B _ (HR.o.below HB.o) HSM.o HTL.o).mono ?_
 rintro e w1 ⟨sc,rfl,ho,hb⟩;have HC2:Hid (wz.heap.size<=w1.heap.size):=Hd (hb.size);replace HB:=Hd (below_via HB.o hb);replace HXb:=Hd (HXb.o.below hb);replace HXz:=Hd (HXz.o.below hb);have HOc:=Hd ho;clear ho hb;go_wp2_with (first|(refine wpList_store_bh (s:=sc) (B:=B) rfl _ _ rfl rfl rfl HXb.o rfl ?_))
 intro w2 hw0;have hon:Onl [w.heap.size] w1 w2:=by rw[hw0.out];exact Onl.setRow (Onl.refl _ _) (.inl (by simp)) _
 have hx:Bx w2 (w.heap.size) sc (B):=by rw[hw0.out];exact Bx.row HXb.o _ _
 clear hw0;have hlo:w.heap.size<=w.heap.size:=by(have o0:=HC1.o;have o1:=HC2.o;have x0:=HXb.o.lt;have x1:=HXz.o.lt;omega)
 have hls:w.heap.size<=w1.heap.size:=HB.o.size;replace HB:=Hd (belowOnl HB.o hon (by simp only[List.mem_singleton,forall_eq];exact hlo) hls);replace HXz:=Hd (HXz.o.onl hon (by simp only[List.mem_singleton];(have o0:=HC1.o;have o1:=HC2.o;have x0:=HXb.o.lt;have x1:=HXz.o.lt;omega)));replace HOc:=Hd (HOc.o.onlB hon HXb.o);have HC3:Hid (w1.heap.size<=w2.heap.size):=Hd (hon.size);clear hlo hls;replace HXb:=Hd hx;clear hx hon;have HS0:Hid (OuP w B n (.int .i64 0) w2):=Hd ⟨⟨0,sc,by omega,rfl,HXb.o,HOc.o.mono (by(have o0:=HC1.o;have o1:=HC2.o;have o2:=HC3.o;have x0:=HXb.o.lt;have x1:=HXz.o.lt;omega)) (by(have o0:=HC1.o;have o1:=HC2.o;have o2:=HC3.o;have x0:=HXb.o.lt;have x1:=HXz.o.lt;omega))⟩,HB.o,HXz.o⟩;clear HXb HOc HXz HB HC1 HC2 HC3;go_wp2_with fail
 go_loopw [5] (fun v wr=>OuP w B n v wr) (fun v _=>2-(intOf v).toNat)
 case atStart=>exact HS0.o
 obtain⟨⟨p,s',hp,rfl,hx,ho⟩,hb,hz⟩:=hrel
 have HB:=Hd hb;have HXb:=Hd hx;have HXz:=Hd hz;have HOb:=Hd ho;have HNC:Hid (w.heap.size+1+1<=wr.heap.size):=Hd (by have h1:=hz.lt;omega);clear hx hz hb HS0
 rcases(show p=0\/p=1\/p=2 by omega) with rfl|rfl|rfl
 ·rw[show((0:Nat):Int)=0 from rfl]
  rw[show owP B n 0=B from rfl] at HXb HOb ho
  obtain⟨a0,c0,e0⟩:=(ho.il 0 (by omega)).1.form
  have k0:wr.cell? ⟨w.heap.size,6,none⟩=some (.slice a0 B.s0.lib.length c0):=by
   have h1:=HXb.o.cell 6;rw[h1];exact congrArg some e0
  have HR0:Hid (Rw ic 1 wr (.slice a0 B.s0.lib.length c0) B.s0.lib):=Hd (by
   have h1:=(ho.il 0 (by omega)).rw ic_len;rw[e0] at h1
   exact h1)
  have HZ0:Hid (B.s0.lib.length<=1000):=Hd (HSM.o.zs 0 0);clear e0
  obtain⟨a1,c1,e1⟩:=(ho.il 1 (by omega)).1.form
  have k1:wr.cell? ⟨w.heap.size,7,none⟩=some (.slice a1 B.s0.hand.length c1):=by
   have h1:=HXb.o.cell 7;rw[h1];exact congrArg some e1
  have HR1:Hid (Rw ic 1 wr (.slice a1 B.s0.hand.length c1) B.s0.hand):=Hd (by
   have h1:=(ho.il 1 (by omega)).rw ic_len;rw[e1] at h1
   exact h1)
  have HZ1:Hid (B.s0.hand.length<=1000):=Hd (HSM.o.zs 0 1);clear e1
  obtain⟨a2,c2,e2⟩:=(ho.il 2 (by omega)).1.form
  have k2:wr.cell? ⟨w.heap.size,8,none⟩=some (.slice a2 B.s0.fld.length c2):=by
   have h1:=HXb.o.cell 8;rw[h1];exact congrArg some e2
  have HR2:Hid (Rw ic 1 wr (.slice a2 B.s0.fld.length c2) B.s0.fld):=Hd (by
   have h1:=(ho.il 2 (by omega)).rw ic_len;rw[e2] at h1
   exact h1)
  have HZ2:Hid (B.s0.fld.length<=1000):=Hd (HSM.o.zs 0 2);clear e2
  obtain⟨a3,c3,e3⟩:=(ho.il 3 (by omega)).1.form
  have k3:wr.cell? ⟨w.heap.size,9,none⟩=some (.slice a3 B.s0.grv.length c3):=by
   have h1:=HXb.o.cell 9;rw[h1];exact congrArg some e3
  have HR3:Hid (Rw ic 1 wr (.slice a3 B.s0.grv.length c3) B.s0.grv):=Hd (by
   have h1:=(ho.il 3 (by omega)).rw ic_len;rw[e3] at h1
   exact h1)
  have HZ3:Hid (B.s0.grv.length<=1000):=Hd (HSM.o.zs 0 3);clear e3;have hb0:w.heap.size<wr.heap.size:=HXb.o.lt;clear ho
  go_upto_region 6 with fail
  refine rg50_6 (w0:=wr) (B:=wr.heap.size) (n:=wr.heap.size) (L:=[]) (by kernel_rfl) rfl (by kernel_rfl) (.t ⟨by go_grown,by go_size,(by simp[go_sem]<;>omega)⟩) (fun w61 K_w61 E_w61 F_w61=> ?_);have _ne:Nonempty (KX (wr.heap.size) wr (wr.heap.size) [] (fun _=>True)):=⟨⟨_,K_w61,E_w61⟩⟩
  repeat (go_big_quiet_step (fail))
  refine wpQuiet_nil ?_;have ra0:=rck _ne k0 hb0;have ra1:=rck _ne k1 hb0;have ra2:=rck _ne k2 hb0;have ra3:=rck _ne k3 hb0
  repeat (go_big_quiet_step (fail))
  refine wpQuiet_nil ?_;have KH_w61:=Hd K_w61;have hw_w61:=K_w61.below;have hz_w61:=K_w61.size;clear K_w61;clear E_w61 F_w61
  refine⟨fun K hK0=> ?_,trivial⟩
  have hK:=Hd hK0;clear hK0;go_wp2_with fail
  with_reducible refine(rwithout _ B.s0.lib n _ (HR0.o.below KH_w61.o.below) HZ0.o).mono ?_
  rintro e wc0 ⟨xa0,xc0,rfl,hox,hb⟩;have HW0:=Hd hox;have HBC:Hid (Below wr.heap.size wr wc0):=Hd (below_via KH_w61.o.below hb);have HL0:Hid (wr.heap.size<=w61.heap.size):=Hd KH_w61.o.below.size;have HL1:Hid (w61.heap.size<=wc0.heap.size):=Hd hb.size;clear hox hb;go_wp2_with fail
  first|refine⟨rfl,?u,hK.o _ _ ?_⟩|refine⟨?u,hK.o _ _ ?_⟩
  case u=>exact⟨⟨_,(⟨HBC.o,HBC.o.size,by simp⟩:Kept wr.heap.size wr wr.heap.size [] wc0),trivial⟩,rfl⟩
  clear hK K
  refine⟨fun K hK0=> ?_,trivial⟩
  have hK:=Hd hK0;clear hK0;go_wp2_with fail
  with_reducible refine(rwithout _ B.s0.hand n _ (HR1.o.below HBC.o) HZ1.o).mono ?_
  rintro e wc1 ⟨xa1,xc1,rfl,hox,hb⟩;have HW1:=Hd hox;replace HBC:=Hd (below_via HBC.o hb);replace HW0:=Hd (HW0.o.below hb);have HL2:Hid (wc0.heap.size<=wc1.heap.size):=Hd hb.size;clear hox hb;go_wp2_with fail
  first|refine⟨rfl,?u,hK.o _ _ ?_⟩|refine⟨?u,hK.o _ _ ?_⟩
  case u=>exact⟨⟨_,(⟨HBC.o,HBC.o.size,by simp⟩:Kept wr.heap.size wr wr.heap.size [] wc1),trivial⟩,rfl⟩
  clear hK K
  refine⟨fun K hK0=> ?_,trivial⟩
  have hK:=Hd hK0;clear hK0;go_wp2_with fail
  with_reducible refine(rwithout _ B.s0.fld n _ (HR2.o.below HBC.o) HZ2.o).mono ?_
  rintro e wc2 ⟨xa2,xc2,rfl,hox,hb⟩;have HW2:=Hd hox;replace HBC:=Hd (below_via HBC.o hb);replace HW0:=Hd (HW0.o.below hb);replace HW1:=Hd (HW1.o.below hb);have HL3:Hid (wc1.heap.size<=wc2.heap.size):=Hd hb.size;clear hox hb;go_wp2_with fail
  first|refine⟨rfl,?u,hK.o _ _ ?_⟩|refine⟨?u,hK.o _ _ ?_⟩
  case u=>exact⟨⟨_,(⟨HBC.o,HBC.o.size,by simp⟩:Kept wr.heap.size wr wr.heap.size [] wc2),trivial⟩,rfl⟩
  clear hK K
  refine⟨fun K hK0=> ?_,trivial⟩
  have hK:=Hd hK0;clear hK0;go_wp2_with fail
  with_reducible refine(rwithout _ B.s0.grv n _ (HR3.o.below HBC.o) HZ3.o).mono ?_
  rintro e wc3 ⟨xa3,xc3,rfl,hox,hb⟩;have HW3:=Hd hox;replace HBC:=Hd (below_via HBC.o hb);replace HW0:=Hd (HW0.o.below hb);replace HW1:=Hd (HW1.o.below hb);replace HW2:=Hd (HW2.o.below hb);have HL4:Hid (wc2.heap.size<=wc3.heap.size):=Hd hb.size;clear hox hb;go_wp2_with fail
  first|refine⟨rfl,hK.o _ _ ?_⟩|refine hK.o _ _ ?_
  clear hK K
  repeat (go_big_quiet_step (fail))
  refine wpQuiet_nil ?_
  refine⟨fun K hK0=> ?_,trivial⟩
  have hK:=Hd hK0;clear hK0;replace HB:=Hd (below_via HB.o HBC.o);replace HXb:=Hd (HXb.o.below HBC.o);replace HXz:=Hd (HXz.o.below HBC.o);replace HOb:=Hd (HOb.o.below HBC.o);clear HBC HR0 HR1 HR2 HR3 k0 k1 k2 k3 hb0;have c9:wc3.cell? ⟨w.heap.size,6,none⟩=some ((s'.zl 0 0).v):=HXb.o.cell 6;have f9:=HXb.o.free 6;go_wp2_with fail
  obtain⟨ws0,hw⟩:∃X,X=wc3.setCell ⟨w.heap.size,6,none⟩ (.slice xa0 (wo n B.s0.lib).length xc0):=⟨_,rfl⟩
  rw[<-hw];have hon:Onl [w.heap.size] wc3 ws0:=by rw[hw];exact Onl.setCell (Onl.refl _ _) (.inl (by simp)) _
  have hx:Bx ws0 w.heap.size (s'.setZ 0 0 (⟨xa0,(wo n B.s0.lib).length,xc0⟩:Sl)) (B.setL 0 0 (wo n B.s0.lib)):=by rw[hw];exact HXb.o.putL (p:=0) (z:=0) (by omega) (by omega) (⟨xa0,(wo n B.s0.lib).length,xc0⟩:Sl) _
  have hbo:=HOb.o.onlB hon HXb.o;replace HW0:=Hd (HW0.o.other (grown_onl hon) (fun b hb=>by cases hb;exact⟨_,HXb.o⟩) (by decide:3≠34) (Nat.le_refl _));replace HW1:=Hd (HW1.o.other (grown_onl hon) (fun b hb=>by cases hb;exact⟨_,HXb.o⟩) (by decide:3≠34) (Nat.le_refl _));replace HW2:=Hd (HW2.o.other (grown_onl hon) (fun b hb=>by cases hb;exact⟨_,HXb.o⟩) (by decide:3≠34) (Nat.le_refl _));replace HW3:=Hd (HW3.o.other (grown_onl hon) (fun b hb=>by cases hb;exact⟨_,HXb.o⟩) (by decide:3≠34) (Nat.le_refl _));clear hw c9 f9;have hlo:w.heap.size<=w.heap.size:=by(have o0:=HNC.o;have o1:=HL0.o;have o2:=HL1.o;have o3:=HL2.o;have o4:=HL3.o;have o5:=HL4.o;have x0:=HXb.o.lt;have x1:=HXz.o.lt;omega)
  have hls:w.heap.size<=wc3.heap.size:=HB.o.size;replace HB:=Hd (belowOnl HB.o hon (by simp only[List.mem_singleton,forall_eq];exact hlo) hls);replace HXz:=Hd (HXz.o.onl hon (by simp only[List.mem_singleton];(have o0:=HNC.o;have o1:=HL0.o;have o2:=HL1.o;have o3:=HL2.o;have o4:=HL3.o;have o5:=HL4.o;have x0:=HXb.o.lt;have x1:=HXz.o.lt;omega)));have HCs01:Hid (wc3.heap.size<=ws0.heap.size):=Hd (hon.size);clear hlo hls;replace HOb:=Hd (hbo.newZ (hi3:=wc0.heap.size) (p:=0) (z:=0) (by omega) (by omega) (⟨xa0,(wo n B.s0.lib).length,xc0⟩:Sl) (wo n B.s0.lib) HW0.o (by(have o0:=HNC.o;have o1:=HL0.o;have o2:=HL1.o;have o3:=HL2.o;have o4:=HL3.o;have o5:=HL4.o;have o6:=HCs01.o;have x0:=HXb.o.lt;have x1:=HXz.o.lt;omega)) (by(have o0:=HNC.o;have o1:=HL0.o;have o2:=HL1.o;have o3:=HL2.o;have o4:=HL3.o;have o5:=HL4.o;have o6:=HCs01.o;have x0:=HXb.o.lt;have x1:=HXz.o.lt;omega)) (Nat.le_refl _) (by(have o0:=HNC.o;have o1:=HL0.o;have o2:=HL1.o;have o3:=HL2.o;have o4:=HL3.o;have o5:=HL4.o;have o6:=HCs01.o;have x0:=HXb.o.lt;have x1:=HXz.o.lt;omega)));replace HXb:=Hd hx;clear hx hon hbo HW0
  first|refine⟨rfl,hK.o _ _ ?_⟩|refine hK.o _ _ ?_
  clear hK K
  repeat (go_big_quiet_step (fail))
  refine wpQuiet_nil ?_
  refine⟨fun K hK0=> ?_,trivial⟩
  have hK:=Hd hK0;clear hK0;have c9:ws0.cell? ⟨w.heap.size,7,none⟩=some (((s'.setZ 0 0 (⟨xa0,(wo n B.s0.lib).length,xc0⟩:Sl)).zl 0 1).v):=HXb.o.cell 7;have f9:=HXb.o.free 7;go_wp2_with fail
  obtain⟨ws1,hw⟩:∃X,X=ws0.setCell ⟨w.heap.size,7,none⟩ (.slice xa1 (wo n B.s0.hand).length xc1):=⟨_,rfl⟩
  rw[<-hw];have hon:Onl [w.heap.size] ws0 ws1:=by rw[hw];exact Onl.setCell (Onl.refl _ _) (.inl (by simp)) _
  have hx:Bx ws1 w.heap.size ((s'.setZ 0 0 (⟨xa0,(wo n B.s0.lib).length,xc0⟩:Sl)).setZ 0 1 (⟨xa1,(wo n B.s0.hand).length,xc1⟩:Sl)) ((B.setL 0 0 (wo n B.s0.lib)).setL 0 1 (wo n B.s0.hand)):=by rw[hw];exact HXb.o.putL (p:=0) (z:=1) (by omega) (by omega) (⟨xa1,(wo n B.s0.hand).length,xc1⟩:Sl) _
  have hbo:=HOb.o.onlB hon HXb.o;replace HW1:=Hd (HW1.o.other (grown_onl hon) (fun b hb=>by cases hb;exact⟨_,HXb.o⟩) (by decide:3≠34) (Nat.le_refl _));replace HW2:=Hd (HW2.o.other (grown_onl hon) (fun b hb=>by cases hb;exact⟨_,HXb.o⟩) (by decide:3≠34) (Nat.le_refl _));replace HW3:=Hd (HW3.o.other (grown_onl hon) (fun b hb=>by cases hb;exact⟨_,HXb.o⟩) (by decide:3≠34) (Nat.le_refl _));clear hw c9 f9;have hlo:w.heap.size<=w.heap.size:=by(have o0:=HNC.o;have o1:=HL0.o;have o2:=HL1.o;have o3:=HL2.o;have o4:=HL3.o;have o5:=HL4.o;have o6:=HCs01.o;have x0:=HXb.o.lt;have x1:=HXz.o.lt;omega)
  have hls:w.heap.size<=ws0.heap.size:=HB.o.size;replace HB:=Hd (belowOnl HB.o hon (by simp only[List.mem_singleton,forall_eq];exact hlo) hls);replace HXz:=Hd (HXz.o.onl hon (by simp only[List.mem_singleton];(have o0:=HNC.o;have o1:=HL0.o;have o2:=HL1.o;have o3:=HL2.o;have o4:=HL3.o;have o5:=HL4.o;have o6:=HCs01.o;have x0:=HXb.o.lt;have x1:=HXz.o.lt;omega)));have HCs02:Hid (ws0.heap.size<=ws1.heap.size):=Hd (hon.size);clear hlo hls;replace HOb:=Hd (hbo.newZ (hi3:=wc1.heap.size) (p:=0) (z:=1) (by omega) (by omega) (⟨xa1,(wo n B.s0.hand).length,xc1⟩:Sl) (wo n B.s0.hand) HW1.o (by(have o0:=HNC.o;have o1:=HL0.o;have o2:=HL1.o;have o3:=HL2.o;have o4:=HL3.o;have o5:=HL4.o;have o6:=HCs01.o;have o7:=HCs02.o;have x0:=HXb.o.lt;have x1:=HXz.o.lt;omega)) (by(have o0:=HNC.o;have o1:=HL0.o;have o2:=HL1.o;have o3:=HL2.o;have o4:=HL3.o;have o5:=HL4.o;have o6:=HCs01.o;have o7:=HCs02.o;have x0:=HXb.o.lt;have x1:=HXz.o.lt;omega)) (Nat.le_refl _) (by(have o0:=HNC.o;have o1:=HL0.o;have o2:=HL1.o;have o3:=HL2.o;have o4:=HL3.o;have o5:=HL4.o;have o6:=HCs01.o;have o7:=HCs02.o;have x0:=HXb.o.lt;have x1:=HXz.o.lt;omega)));replace HXb:=Hd hx;clear hx hon hbo HW1
  first|refine⟨rfl,hK.o _ _ ?_⟩|refine hK.o _ _ ?_
  clear hK K
  repeat (go_big_quiet_step (fail))
  refine wpQuiet_nil ?_
  refine⟨fun K hK0=> ?_,trivial⟩
  have hK:=Hd hK0;clear hK0;have c9:ws1.cell? ⟨w.heap.size,8,none⟩=some ((((s'.setZ 0 0 (⟨xa0,(wo n B.s0.lib).length,xc0⟩:Sl)).setZ 0 1 (⟨xa1,(wo n B.s0.hand).length,xc1⟩:Sl)).zl 0 2).v):=HXb.o.cell 8;have f9:=HXb.o.free 8;go_wp2_with fail
  obtain⟨ws2,hw⟩:∃X,X=ws1.setCell ⟨w.heap.size,8,none⟩ (.slice xa2 (wo n B.s0.fld).length xc2):=⟨_,rfl⟩
  rw[<-hw];have hon:Onl [w.heap.size] ws1 ws2:=by rw[hw];exact Onl.setCell (Onl.refl _ _) (.inl (by simp)) _
  have hx:Bx ws2 w.heap.size (((s'.setZ 0 0 (⟨xa0,(wo n B.s0.lib).length,xc0⟩:Sl)).setZ 0 1 (⟨xa1,(wo n B.s0.hand).length,xc1⟩:Sl)).setZ 0 2 (⟨xa2,(wo n B.s0.fld).length,xc2⟩:Sl)) (((B.setL 0 0 (wo n B.s0.lib)).setL 0 1 (wo n B.s0.hand)).setL 0 2 (wo n B.s0.fld)):=by rw[hw];exact HXb.o.putL (p:=0) (z:=2) (by omega) (by omega) (⟨xa2,(wo n B.s0.fld).length,xc2⟩:Sl) _
  have hbo:=HOb.o.onlB hon HXb.o;replace HW2:=Hd (HW2.o.other (grown_onl hon) (fun b hb=>by cases hb;exact⟨_,HXb.o⟩) (by decide:3≠34) (Nat.le_refl _));replace HW3:=Hd (HW3.o.other (grown_onl hon) (fun b hb=>by cases hb;exact⟨_,HXb.o⟩) (by decide:3≠34) (Nat.le_refl _));clear hw c9 f9;have hlo:w.heap.size<=w.heap.size:=by(have o0:=HNC.o;have o1:=HL0.o;have o2:=HL1.o;have o3:=HL2.o;have o4:=HL3.o;have o5:=HL4.o;have o6:=HCs01.o;have o7:=HCs02.o;have x0:=HXb.o.lt;have x1:=HXz.o.lt;omega)
  have hls:w.heap.size<=ws1.heap.size:=HB.o.size;replace HB:=Hd (belowOnl HB.o hon (by simp only[List.mem_singleton,forall_eq];exact hlo) hls);replace HXz:=Hd (HXz.o.onl hon (by simp only[List.mem_singleton];(have o0:=HNC.o;have o1:=HL0.o;have o2:=HL1.o;have o3:=HL2.o;have o4:=HL3.o;have o5:=HL4.o;have o6:=HCs01.o;have o7:=HCs02.o;have x0:=HXb.o.lt;have x1:=HXz.o.lt;omega)));have HCs03:Hid (ws1.heap.size<=ws2.heap.size):=Hd (hon.size);clear hlo hls;replace HOb:=Hd (hbo.newZ (hi3:=wc2.heap.size) (p:=0) (z:=2) (by omega) (by omega) (⟨xa2,(wo n B.s0.fld).length,xc2⟩:Sl) (wo n B.s0.fld) HW2.o (by(have o0:=HNC.o;have o1:=HL0.o;have o2:=HL1.o;have o3:=HL2.o;have o4:=HL3.o;have o5:=HL4.o;have o6:=HCs01.o;have o7:=HCs02.o;have o8:=HCs03.o;have x0:=HXb.o.lt;have x1:=HXz.o.lt;omega)) (by(have o0:=HNC.o;have o1:=HL0.o;have o2:=HL1.o;have o3:=HL2.o;have o4:=HL3.o;have o5:=HL4.o;have o6:=HCs01.o;have o7:=HCs02.o;have o8:=HCs03.o;have x0:=HXb.o.lt;have x1:=HXz.o.lt;omega)) (Nat.le_refl _) (by(have o0:=HNC.o;have o1:=HL0.o;have o2:=HL1.o;have o3:=HL2.o;have o4:=HL3.o;have o5:=HL4.o;have o6:=HCs01.o;have o7:=HCs02.o;have o8:=HCs03.o;have x0:=HXb.o.lt;have x1:=HXz.o.lt;omega)));replace HXb:=Hd hx;clear hx hon hbo HW2
  first|refine⟨rfl,hK.o _ _ ?_⟩|refine hK.o _ _ ?_
  clear hK K
  repeat (go_big_quiet_step (fail))
  refine wpQuiet_nil ?_
  refine⟨fun K hK0=> ?_,trivial⟩
  have hK:=Hd hK0;clear hK0;have c9:ws2.cell? ⟨w.heap.size,9,none⟩=some (((((s'.setZ 0 0 (⟨xa0,(wo n B.s0.lib).length,xc0⟩:Sl)).setZ 0 1 (⟨xa1,(wo n B.s0.hand).length,xc1⟩:Sl)).setZ 0 2 (⟨xa2,(wo n B.s0.fld).length,xc2⟩:Sl)).zl 0 3).v):=HXb.o.cell 9;have f9:=HXb.o.free 9;go_wp2_with fail
  obtain⟨ws3,hw⟩:∃X,X=ws2.setCell ⟨w.heap.size,9,none⟩ (.slice xa3 (wo n B.s0.grv).length xc3):=⟨_,rfl⟩
  rw[<-hw];have hon:Onl [w.heap.size] ws2 ws3:=by rw[hw];exact Onl.setCell (Onl.refl _ _) (.inl (by simp)) _
  have hx:Bx ws3 w.heap.size ((((s'.setZ 0 0 (⟨xa0,(wo n B.s0.lib).length,xc0⟩:Sl)).setZ 0 1 (⟨xa1,(wo n B.s0.hand).length,xc1⟩:Sl)).setZ 0 2 (⟨xa2,(wo n B.s0.fld).length,xc2⟩:Sl)).setZ 0 3 (⟨xa3,(wo n B.s0.grv).length,xc3⟩:Sl)) ((((B.setL 0 0 (wo n B.s0.lib)).setL 0 1 (wo n B.s0.hand)).setL 0 2 (wo n B.s0.fld)).setL 0 3 (wo n B.s0.grv)):=by rw[hw];exact HXb.o.putL (p:=0) (z:=3) (by omega) (by omega) (⟨xa3,(wo n B.s0.grv).length,xc3⟩:Sl) _
  have hbo:=HOb.o.onlB hon HXb.o;replace HW3:=Hd (HW3.o.other (grown_onl hon) (fun b hb=>by cases hb;exact⟨_,HXb.o⟩) (by decide:3≠34) (Nat.le_refl _));clear hw c9 f9;have hlo:w.heap.size<=w.heap.size:=by(have o0:=HNC.o;have o1:=HL0.o;have o2:=HL1.o;have o3:=HL2.o;have o4:=HL3.o;have o5:=HL4.o;have o6:=HCs01.o;have o7:=HCs02.o;have o8:=HCs03.o;have x0:=HXb.o.lt;have x1:=HXz.o.lt;omega)
  have hls:w.heap.size<=ws2.heap.size:=HB.o.size;replace HB:=Hd (belowOnl HB.o hon (by simp only[List.mem_singleton,forall_eq];exact hlo) hls);replace HXz:=Hd (HXz.o.onl hon (by simp only[List.mem_singleton];(have o0:=HNC.o;have o1:=HL0.o;have o2:=HL1.o;have o3:=HL2.o;have o4:=HL3.o;have o5:=HL4.o;have o6:=HCs01.o;have o7:=HCs02.o;have o8:=HCs03.o;have x0:=HXb.o.lt;have x1:=HXz.o.lt;omega)));have HCs04:Hid (ws2.heap.size<=ws3.heap.size):=Hd (hon.size);clear hlo hls;replace HOb:=Hd (hbo.newZ (hi3:=wc3.heap.size) (p:=0) (z:=3) (by omega) (by omega) (⟨xa3,(wo n B.s0.grv).length,xc3⟩:Sl) (wo n B.s0.grv) HW3.o (by(have o0:=HNC.o;have o1:=HL0.o;have o2:=HL1.o;have o3:=HL2.o;have o4:=HL3.o;have o5:=HL4.o;have o6:=HCs01.o;have o7:=HCs02.o;have o8:=HCs03.o;have o9:=HCs04.o;have x0:=HXb.o.lt;have x1:=HXz.o.lt;omega)) (by(have o0:=HNC.o;have o1:=HL0.o;have o2:=HL1.o;have o3:=HL2.o;have o4:=HL3.o;have o5:=HL4.o;have o6:=HCs01.o;have o7:=HCs02.o;have o8:=HCs03.o;have o9:=HCs04.o;have x0:=HXb.o.lt;have x1:=HXz.o.lt;omega)) (Nat.le_refl _) (by(have o0:=HNC.o;have o1:=HL0.o;have o2:=HL1.o;have o3:=HL2.o;have o4:=HL3.o;have o5:=HL4.o;have o6:=HCs01.o;have o7:=HCs02.o;have o8:=HCs03.o;have o9:=HCs04.o;have x0:=HXb.o.lt;have x1:=HXz.o.lt;omega)));replace HXb:=Hd hx;clear hx hon hbo HW3
  first|refine⟨rfl,hK.o _ _ ?_⟩|refine hK.o _ _ ?_
  clear hK K;clear ra0 ra1 ra2 ra3;clear _ne;have hfin:((((B.setL 0 0 (wo n B.s0.lib)).setL 0 1 (wo n B.s0.hand)).setL 0 2 (wo n B.s0.fld)).setL 0 3 (wo n B.s0.grv))=owP B n 1:=rfl;rw[hfin] at HXb HOb
  have HSN:Hid (OuP w B n (.int .i64 1) ws3):=Hd ⟨⟨1,_,by omega,rfl,HXb.o,HOb.o.mono (Nat.le_refl _) (by(have o0:=HNC.o;have o1:=HL0.o;have o2:=HL1.o;have o3:=HL2.o;have o4:=HL3.o;have o5:=HL4.o;have o6:=HCs01.o;have o7:=HCs02.o;have o8:=HCs03.o;have o9:=HCs04.o;have x0:=HXb.o.lt;have x1:=HXz.o.lt;omega))⟩,HB.o,HXz.o⟩;go_wp2_with fail
  go_roundw
  case rel=>exact HSN.o
  case measure=>simp[intOf]
 ·rw[show((1:Nat):Int)=1 from rfl]
  obtain⟨a0,c0,e0⟩:=(ho.il 4 (by omega)).1.form
  have k0:wr.cell? ⟨w.heap.size,20,none⟩=some (.slice a0 B.s1.lib.length c0):=by
   have h1:=HXb.o.cell 20;rw[h1];exact congrArg some e0
  have HR0:Hid (Rw ic 1 wr (.slice a0 B.s1.lib.length c0) B.s1.lib):=Hd (by
   have h1:=(ho.il 4 (by omega)).rw ic_len;rw[e0] at h1
   exact h1)
  have HZ0:Hid (B.s1.lib.length<=1000):=Hd (HSM.o.zs 1 0);clear e0
  obtain⟨a1,c1,e1⟩:=(ho.il 5 (by omega)).1.form
  have k1:wr.cell? ⟨w.heap.size,21,none⟩=some (.slice a1 B.s1.hand.length c1):=by
   have h1:=HXb.o.cell 21;rw[h1];exact congrArg some e1
  have HR1:Hid (Rw ic 1 wr (.slice a1 B.s1.hand.length c1) B.s1.hand):=Hd (by
   have h1:=(ho.il 5 (by omega)).rw ic_len;rw[e1] at h1
   exact h1)
  have HZ1:Hid (B.s1.hand.length<=1000):=Hd (HSM.o.zs 1 1);clear e1
  obtain⟨a2,c2,e2⟩:=(ho.il 6 (by omega)).1.form
  have k2:wr.cell? ⟨w.heap.size,22,none⟩=some (.slice a2 B.s1.fld.length c2):=by
   have h1:=HXb.o.cell 22;rw[h1];exact congrArg some e2
  have HR2:Hid (Rw ic 1 wr (.slice a2 B.s1.fld.length c2) B.s1.fld):=Hd (by
   have h1:=(ho.il 6 (by omega)).rw ic_len;rw[e2] at h1
   exact h1)
  have HZ2:Hid (B.s1.fld.length<=1000):=Hd (HSM.o.zs 1 2);clear e2
  obtain⟨a3,c3,e3⟩:=(ho.il 7 (by omega)).1.form
  have k3:wr.cell? ⟨w.heap.size,23,none⟩=some (.slice a3 B.s1.grv.length c3):=by
   have h1:=HXb.o.cell 23;rw[h1];exact congrArg some e3
  have HR3:Hid (Rw ic 1 wr (.slice a3 B.s1.grv.length c3) B.s1.grv):=Hd (by
   have h1:=(ho.il 7 (by omega)).rw ic_len;rw[e3] at h1
   exact h1)
  have HZ3:Hid (B.s1.grv.length<=1000):=Hd (HSM.o.zs 1 3);clear e3;have hb0:w.heap.size<wr.heap.size:=HXb.o.lt;clear ho
  go_upto_region 6 with fail
  refine rg50_6 (w0:=wr) (B:=wr.heap.size) (n:=wr.heap.size) (L:=[]) (by kernel_rfl) rfl (by kernel_rfl) (.t ⟨by go_grown,by go_size,(by simp[go_sem]<;>omega)⟩) (fun w61 K_w61 E_w61 F_w61=> ?_);have _ne:Nonempty (KX (wr.heap.size) wr (wr.heap.size) [] (fun _=>True)):=⟨⟨_,K_w61,E_w61⟩⟩
  repeat (go_big_quiet_step (fail))
  refine wpQuiet_nil ?_;have ra0:=rck _ne k0 hb0;have ra1:=rck _ne k1 hb0;have ra2:=rck _ne k2 hb0;have ra3:=rck _ne k3 hb0
  repeat (go_big_quiet_step (fail))
  refine wpQuiet_nil ?_;have KH_w61:=Hd K_w61;have hw_w61:=K_w61.below;have hz_w61:=K_w61.size;clear K_w61;clear E_w61 F_w61
  refine⟨fun K hK0=> ?_,trivial⟩
  have hK:=Hd hK0;clear hK0;go_wp2_with fail
  with_reducible refine(rwithout _ B.s1.lib n _ (HR0.o.below KH_w61.o.below) HZ0.o).mono ?_
  rintro e wc0 ⟨xa0,xc0,rfl,hox,hb⟩;have HW0:=Hd hox;have HBC:Hid (Below wr.heap.size wr wc0):=Hd (below_via KH_w61.o.below hb);have HL0:Hid (wr.heap.size<=w61.heap.size):=Hd KH_w61.o.below.size;have HL1:Hid (w61.heap.size<=wc0.heap.size):=Hd hb.size;clear hox hb;go_wp2_with fail
  first|refine⟨rfl,?u,hK.o _ _ ?_⟩|refine⟨?u,hK.o _ _ ?_⟩
  case u=>exact⟨⟨_,(⟨HBC.o,HBC.o.size,by simp⟩:Kept wr.heap.size wr wr.heap.size [] wc0),trivial⟩,rfl⟩
  clear hK K
  refine⟨fun K hK0=> ?_,trivial⟩
  have hK:=Hd hK0;clear hK0;go_wp2_with fail
  with_reducible refine(rwithout _ B.s1.hand n _ (HR1.o.below HBC.o) HZ1.o).mono ?_
  rintro e wc1 ⟨xa1,xc1,rfl,hox,hb⟩;have HW1:=Hd hox;replace HBC:=Hd (below_via HBC.o hb);replace HW0:=Hd (HW0.o.below hb);have HL2:Hid (wc0.heap.size<=wc1.heap.size):=Hd hb.size;clear hox hb;go_wp2_with fail
  first|refine⟨rfl,?u,hK.o _ _ ?_⟩|refine⟨?u,hK.o _ _ ?_⟩
  case u=>exact⟨⟨_,(⟨HBC.o,HBC.o.size,by simp⟩:Kept wr.heap.size wr wr.heap.size [] wc1),trivial⟩,rfl⟩
  clear hK K
  refine⟨fun K hK0=> ?_,trivial⟩
  have hK:=Hd hK0;clear hK0;go_wp2_with fail
  with_reducible refine(rwithout _ B.s1.fld n _ (HR2.o.below HBC.o) HZ2.o).mono ?_
  rintro e wc2 ⟨xa2,xc2,rfl,hox,hb⟩;have HW2:=Hd hox;replace HBC:=Hd (below_via HBC.o hb);replace HW0:=Hd (HW0.o.below hb);replace HW1:=Hd (HW1.o.below hb);have HL3:Hid (wc1.heap.size<=wc2.heap.size):=Hd hb.size;clear hox hb;go_wp2_with fail
  first|refine⟨rfl,?u,hK.o _ _ ?_⟩|refine⟨?u,hK.o _ _ ?_⟩
  case u=>exact⟨⟨_,(⟨HBC.o,HBC.o.size,by simp⟩:Kept wr.heap.size wr wr.heap.size [] wc2),trivial⟩,rfl⟩
  clear hK K
  refine⟨fun K hK0=> ?_,trivial⟩
  have hK:=Hd hK0;clear hK0;go_wp2_with fail
  with_reducible refine(rwithout _ B.s1.grv n _ (HR3.o.below HBC.o) HZ3.o).mono ?_
  rintro e wc3 ⟨xa3,xc3,rfl,hox,hb⟩;have HW3:=Hd hox;replace HBC:=Hd (below_via HBC.o hb);replace HW0:=Hd (HW0.o.below hb);replace HW1:=Hd (HW1.o.below hb);replace HW2:=Hd (HW2.o.below hb);have HL4:Hid (wc2.heap.size<=wc3.heap.size):=Hd hb.size;clear hox hb;go_wp2_with fail
  first|refine⟨rfl,hK.o _ _ ?_⟩|refine hK.o _ _ ?_
  clear hK K
  repeat (go_big_quiet_step (fail))
  refine wpQuiet_nil ?_
  refine⟨fun K hK0=> ?_,trivial⟩
  have hK:=Hd hK0;clear hK0;replace HB:=Hd (below_via HB.o HBC.o);replace HXb:=Hd (HXb.o.below HBC.o);replace HXz:=Hd (HXz.o.below HBC.o);replace HOb:=Hd (HOb.o.below HBC.o);clear HBC HR0 HR1 HR2 HR3 k0 k1 k2 k3 hb0;have c9:wc3.cell? ⟨w.heap.size,20,none⟩=some ((s'.zl 1 0).v):=HXb.o.cell 20;have f9:=HXb.o.free 20;go_wp2_with fail
  obtain⟨ws0,hw⟩:∃X,X=wc3.setCell ⟨w.heap.size,20,none⟩ (.slice xa0 (wo n B.s1.lib).length xc0):=⟨_,rfl⟩
  rw[<-hw];have hon:Onl [w.heap.size] wc3 ws0:=by rw[hw];exact Onl.setCell (Onl.refl _ _) (.inl (by simp)) _
  have hx:Bx ws0 w.heap.size (s'.setZ 1 0 (⟨xa0,(wo n B.s1.lib).length,xc0⟩:Sl)) ((owP B n 1).setL 1 0 (wo n B.s1.lib)):=by rw[hw];exact HXb.o.putL (p:=1) (z:=0) (by omega) (by omega) (⟨xa0,(wo n B.s1.lib).length,xc0⟩:Sl) _
  have hbo:=HOb.o.onlB hon HXb.o;replace HW0:=Hd (HW0.o.other (grown_onl hon) (fun b hb=>by cases hb;exact⟨_,HXb.o⟩) (by decide:3≠34) (Nat.le_refl _));replace HW1:=Hd (HW1.o.other (grown_onl hon) (fun b hb=>by cases hb;exact⟨_,HXb.o⟩) (by decide:3≠34) (Nat.le_refl _));replace HW2:=Hd (HW2.o.other (grown_onl hon) (fun b hb=>by cases hb;exact⟨_,HXb.o⟩) (by decide:3≠34) (Nat.le_refl _));replace HW3:=Hd (HW3.o.other (grown_onl hon) (fun b hb=>by cases hb;exact⟨_,HXb.o⟩) (by decide:3≠34) (Nat.le_refl _));clear hw c9 f9;have hlo:w.heap.size<=w.heap.size:=by(have o0:=HNC.o;have o1:=HL0.o;have o2:=HL1.o;have o3:=HL2.o;have o4:=HL3.o;have o5:=HL4.o;have x0:=HXb.o.lt;have x1:=HXz.o.lt;omega)
  have hls:w.heap.size<=wc3.heap.size:=HB.o.size;replace HB:=Hd (belowOnl HB.o hon (by simp only[List.mem_singleton,forall_eq];exact hlo) hls);replace HXz:=Hd (HXz.o.onl hon (by simp only[List.mem_singleton];(have o0:=HNC.o;have o1:=HL0.o;have o2:=HL1.o;have o3:=HL2.o;have o4:=HL3.o;have o5:=HL4.o;have x0:=HXb.o.lt;have x1:=HXz.o.lt;omega)));have HCs11:Hid (wc3.heap.size<=ws0.heap.size):=Hd (hon.size);clear hlo hls;replace HOb:=Hd (hbo.newZ (hi3:=wc0.heap.size) (p:=1) (z:=0) (by omega) (by omega) (⟨xa0,(wo n B.s1.lib).length,xc0⟩:Sl) (wo n B.s1.lib) HW0.o (by(have o0:=HNC.o;have o1:=HL0.o;have o2:=HL1.o;have o3:=HL2.o;have o4:=HL3.o;have o5:=HL4.o;have o6:=HCs11.o;have x0:=HXb.o.lt;have x1:=HXz.o.lt;omega)) (by(have o0:=HNC.o;have o1:=HL0.o;have o2:=HL1.o;have o3:=HL2.o;have o4:=HL3.o;have o5:=HL4.o;have o6:=HCs11.o;have x0:=HXb.o.lt;have x1:=HXz.o.lt;omega)) (Nat.le_refl _) (by(have o0:=HNC.o;have o1:=HL0.o;have o2:=HL1.o;have o3:=HL2.o;have o4:=HL3.o;have o5:=HL4.o;have o6:=HCs11.o;have x0:=HXb.o.lt;have x1:=HXz.o.lt;omega)));replace HXb:=Hd hx;clear hx hon hbo HW0
  first|refine⟨rfl,hK.o _ _ ?_⟩|refine hK.o _ _ ?_
  clear hK K
  repeat (go_big_quiet_step (fail))
  refine wpQuiet_nil ?_
  refine⟨fun K hK0=> ?_,trivial⟩
  have hK:=Hd hK0;clear hK0;have c9:ws0.cell? ⟨w.heap.size,21,none⟩=some (((s'.setZ 1 0 (⟨xa0,(wo n B.s1.lib).length,xc0⟩:Sl)).zl 1 1).v):=HXb.o.cell 21;have f9:=HXb.o.free 21;go_wp2_with fail
  obtain⟨ws1,hw⟩:∃X,X=ws0.setCell ⟨w.heap.size,21,none⟩ (.slice xa1 (wo n B.s1.hand).length xc1):=⟨_,rfl⟩
  rw[<-hw];have hon:Onl [w.heap.size] ws0 ws1:=by rw[hw];exact Onl.setCell (Onl.refl _ _) (.inl (by simp)) _
  have hx:Bx ws1 w.heap.size ((s'.setZ 1 0 (⟨xa0,(wo n B.s1.lib).length,xc0⟩:Sl)).setZ 1 1 (⟨xa1,(wo n B.s1.hand).length,xc1⟩:Sl)) (((owP B n 1).setL 1 0 (wo n B.s1.lib)).setL 1 1 (wo n B.s1.hand)):=by rw[hw];exact HXb.o.putL (p:=1) (z:=1) (by omega) (by omega) (⟨xa1,(wo n B.s1.hand).length,xc1⟩:Sl) _
  have hbo:=HOb.o.onlB hon HXb.o;replace HW1:=Hd (HW1.o.other (grown_onl hon) (fun b hb=>by cases hb;exact⟨_,HXb.o⟩) (by decide:3≠34) (Nat.le_refl _));replace HW2:=Hd (HW2.o.other (grown_onl hon) (fun b hb=>by cases hb;exact⟨_,HXb.o⟩) (by decide:3≠34) (Nat.le_refl _));replace HW3:=Hd (HW3.o.other (grown_onl hon) (fun b hb=>by cases hb;exact⟨_,HXb.o⟩) (by decide:3≠34) (Nat.le_refl _));clear hw c9 f9;have hlo:w.heap.size<=w.heap.size:=by(have o0:=HNC.o;have o1:=HL0.o;have o2:=HL1.o;have o3:=HL2.o;have o4:=HL3.o;have o5:=HL4.o;have o6:=HCs11.o;have x0:=HXb.o.lt;have x1:=HXz.o.lt;omega)
  have hls:w.heap.size<=ws0.heap.size:=HB.o.size;replace HB:=Hd (belowOnl HB.o hon (by simp only[List.mem_singleton,forall_eq];exact hlo) hls);replace HXz:=Hd (HXz.o.onl hon (by simp only[List.mem_singleton];(have o0:=HNC.o;have o1:=HL0.o;have o2:=HL1.o;have o3:=HL2.o;have o4:=HL3.o;have o5:=HL4.o;have o6:=HCs11.o;have x0:=HXb.o.lt;have x1:=HXz.o.lt;omega)));have HCs12:Hid (ws0.heap.size<=ws1.heap.size):=Hd (hon.size);clear hlo hls;replace HOb:=Hd (hbo.newZ (hi3:=wc1.heap.size) (p:=1) (z:=1) (by omega) (by omega) (⟨xa1,(wo n B.s1.hand).length,xc1⟩:Sl) (wo n B.s1.hand) HW1.o (by(have o0:=HNC.o;have o1:=HL0.o;have o2:=HL1.o;have o3:=HL2.o;have o4:=HL3.o;have o5:=HL4.o;have o6:=HCs11.o;have o7:=HCs12.o;have x0:=HXb.o.lt;have x1:=HXz.o.lt;omega)) (by(have o0:=HNC.o;have o1:=HL0.o;have o2:=HL1.o;have o3:=HL2.o;have o4:=HL3.o;have o5:=HL4.o;have o6:=HCs11.o;have o7:=HCs12.o;have x0:=HXb.o.lt;have x1:=HXz.o.lt;omega)) (Nat.le_refl _) (by(have o0:=HNC.o;have o1:=HL0.o;have o2:=HL1.o;have o3:=HL2.o;have o4:=HL3.o;have o5:=HL4.o;have o6:=HCs11.o;have o7:=HCs12.o;have x0:=HXb.o.lt;have x1:=HXz.o.lt;omega)));replace HXb:=Hd hx;clear hx hon hbo HW1
  first|refine⟨rfl,hK.o _ _ ?_⟩|refine hK.o _ _ ?_
  clear hK K
  repeat (go_big_quiet_step (fail))
  refine wpQuiet_nil ?_
  refine⟨fun K hK0=> ?_,trivial⟩
  have hK:=Hd hK0;clear hK0;have c9:ws1.cell? ⟨w.heap.size,22,none⟩=some ((((s'.setZ 1 0 (⟨xa0,(wo n B.s1.lib).length,xc0⟩:Sl)).setZ 1 1 (⟨xa1,(wo n B.s1.hand).length,xc1⟩:Sl)).zl 1 2).v):=HXb.o.cell 22;have f9:=HXb.o.free 22;go_wp2_with fail
  obtain⟨ws2,hw⟩:∃X,X=ws1.setCell ⟨w.heap.size,22,none⟩ (.slice xa2 (wo n B.s1.fld).length xc2):=⟨_,rfl⟩
  rw[<-hw];have hon:Onl [w.heap.size] ws1 ws2:=by rw[hw];exact Onl.setCell (Onl.refl _ _) (.inl (by simp)) _
  have hx:Bx ws2 w.heap.size (((s'.setZ 1 0 (⟨xa0,(wo n B.s1.lib).length,xc0⟩:Sl)).setZ 1 1 (⟨xa1,(wo n B.s1.hand).length,xc1⟩:Sl)).setZ 1 2 (⟨xa2,(wo n B.s1.fld).length,xc2⟩:Sl)) ((((owP B n 1).setL 1 0 (wo n B.s1.lib)).setL 1 1 (wo n B.s1.hand)).setL 1 2 (wo n B.s1.fld)):=by rw[hw];exact HXb.o.putL (p:=1) (z:=2) (by omega) (by omega) (⟨xa2,(wo n B.s1.fld).length,xc2⟩:Sl) _
  have hbo:=HOb.o.onlB hon HXb.o;replace HW2:=Hd (HW2.o.other (grown_onl hon) (fun b hb=>by cases hb;exact⟨_,HXb.o⟩) (by decide:3≠34) (Nat.le_refl _));replace HW3:=Hd (HW3.o.other (grown_onl hon) (fun b hb=>by cases hb;exact⟨_,HXb.o⟩) (by decide:3≠34) (Nat.le_refl _));clear hw c9 f9;have hlo:w.heap.size<=w.heap.size:=by(have o0:=HNC.o;have o1:=HL0.o;have o2:=HL1.o;have o3:=HL2.o;have o4:=HL3.o;have o5:=HL4.o;have o6:=HCs11.o;have o7:=HCs12.o;have x0:=HXb.o.lt;have x1:=HXz.o.lt;omega)
  have hls:w.heap.size<=ws1.heap.size:=HB.o.size;replace HB:=Hd (belowOnl HB.o hon (by simp only[List.mem_singleton,forall_eq];exact hlo) hls);replace HXz:=Hd (HXz.o.onl hon (by simp only[List.mem_singleton];(have o0:=HNC.o;have o1:=HL0.o;have o2:=HL1.o;have o3:=HL2.o;have o4:=HL3.o;have o5:=HL4.o;have o6:=HCs11.o;have o7:=HCs12.o;have x0:=HXb.o.lt;have x1:=HXz.o.lt;omega)));have HCs13:Hid (ws1.heap.size<=ws2.heap.size):=Hd (hon.size);clear hlo hls;replace HOb:=Hd (hbo.newZ (hi3:=wc2.heap.size) (p:=1) (z:=2) (by omega) (by omega) (⟨xa2,(wo n B.s1.fld).length,xc2⟩:Sl) (wo n B.s1.fld) HW2.o (by(have o0:=HNC.o;have o1:=HL0.o;have o2:=HL1.o;have o3:=HL2.o;have o4:=HL3.o;have o5:=HL4.o;have o6:=HCs11.o;have o7:=HCs12.o;have o8:=HCs13.o;have x0:=HXb.o.lt;have x1:=HXz.o.lt;omega)) (by(have o0:=HNC.o;have o1:=HL0.o;have o2:=HL1.o;have o3:=HL2.o;have o4:=HL3.o;have o5:=HL4.o;have o6:=HCs11.o;have o7:=HCs12.o;have o8:=HCs13.o;have x0:=HXb.o.lt;have x1:=HXz.o.lt;omega)) (Nat.le_refl _) (by(have o0:=HNC.o;have o1:=HL0.o;have o2:=HL1.o;have o3:=HL2.o;have o4:=HL3.o;have o5:=HL4.o;have o6:=HCs11.o;have o7:=HCs12.o;have o8:=HCs13.o;have x0:=HXb.o.lt;have x1:=HXz.o.lt;omega)));replace HXb:=Hd hx;clear hx hon hbo HW2
  first|refine⟨rfl,hK.o _ _ ?_⟩|refine hK.o _ _ ?_
  clear hK K
  repeat (go_big_quiet_step (fail))
  refine wpQuiet_nil ?_
  refine⟨fun K hK0=> ?_,trivial⟩
  have hK:=Hd hK0;clear hK0;have c9:ws2.cell? ⟨w.heap.size,23,none⟩=some (((((s'.setZ 1 0 (⟨xa0,(wo n B.s1.lib).length,xc0⟩:Sl)).setZ 1 1 (⟨xa1,(wo n B.s1.hand).length,xc1⟩:Sl)).setZ 1 2 (⟨xa2,(wo n B.s1.fld).length,xc2⟩:Sl)).zl 1 3).v):=HXb.o.cell 23;have f9:=HXb.o.free 23;go_wp2_with fail
  obtain⟨ws3,hw⟩:∃X,X=ws2.setCell ⟨w.heap.size,23,none⟩ (.slice xa3 (wo n B.s1.grv).length xc3):=⟨_,rfl⟩
  rw[<-hw];have hon:Onl [w.heap.size] ws2 ws3:=by rw[hw];exact Onl.setCell (Onl.refl _ _) (.inl (by simp)) _
  have hx:Bx ws3 w.heap.size ((((s'.setZ 1 0 (⟨xa0,(wo n B.s1.lib).length,xc0⟩:Sl)).setZ 1 1 (⟨xa1,(wo n B.s1.hand).length,xc1⟩:Sl)).setZ 1 2 (⟨xa2,(wo n B.s1.fld).length,xc2⟩:Sl)).setZ 1 3 (⟨xa3,(wo n B.s1.grv).length,xc3⟩:Sl)) (((((owP B n 1).setL 1 0 (wo n B.s1.lib)).setL 1 1 (wo n B.s1.hand)).setL 1 2 (wo n B.s1.fld)).setL 1 3 (wo n B.s1.grv)):=by rw[hw];exact HXb.o.putL (p:=1) (z:=3) (by omega) (by omega) (⟨xa3,(wo n B.s1.grv).length,xc3⟩:Sl) _
  have hbo:=HOb.o.onlB hon HXb.o;replace HW3:=Hd (HW3.o.other (grown_onl hon) (fun b hb=>by cases hb;exact⟨_,HXb.o⟩) (by decide:3≠34) (Nat.le_refl _));clear hw c9 f9;have hlo:w.heap.size<=w.heap.size:=by(have o0:=HNC.o;have o1:=HL0.o;have o2:=HL1.o;have o3:=HL2.o;have o4:=HL3.o;have o5:=HL4.o;have o6:=HCs11.o;have o7:=HCs12.o;have o8:=HCs13.o;have x0:=HXb.o.lt;have x1:=HXz.o.lt;omega)
  have hls:w.heap.size<=ws2.heap.size:=HB.o.size;replace HB:=Hd (belowOnl HB.o hon (by simp only[List.mem_singleton,forall_eq];exact hlo) hls);replace HXz:=Hd (HXz.o.onl hon (by simp only[List.mem_singleton];(have o0:=HNC.o;have o1:=HL0.o;have o2:=HL1.o;have o3:=HL2.o;have o4:=HL3.o;have o5:=HL4.o;have o6:=HCs11.o;have o7:=HCs12.o;have o8:=HCs13.o;have x0:=HXb.o.lt;have x1:=HXz.o.lt;omega)));have HCs14:Hid (ws2.heap.size<=ws3.heap.size):=Hd (hon.size);clear hlo hls;replace HOb:=Hd (hbo.newZ (hi3:=wc3.heap.size) (p:=1) (z:=3) (by omega) (by omega) (⟨xa3,(wo n B.s1.grv).length,xc3⟩:Sl) (wo n B.s1.grv) HW3.o (by(have o0:=HNC.o;have o1:=HL0.o;have o2:=HL1.o;have o3:=HL2.o;have o4:=HL3.o;have o5:=HL4.o;have o6:=HCs11.o;have o7:=HCs12.o;have o8:=HCs13.o;have o9:=HCs14.o;have x0:=HXb.o.lt;have x1:=HXz.o.lt;omega)) (by(have o0:=HNC.o;have o1:=HL0.o;have o2:=HL1.o;have o3:=HL2.o;have o4:=HL3.o;have o5:=HL4.o;have o6:=HCs11.o;have o7:=HCs12.o;have o8:=HCs13.o;have o9:=HCs14.o;have x0:=HXb.o.lt;have x1:=HXz.o.lt;omega)) (Nat.le_refl _) (by(have o0:=HNC.o;have o1:=HL0.o;have o2:=HL1.o;have o3:=HL2.o;have o4:=HL3.o;have o5:=HL4.o;have o6:=HCs11.o;have o7:=HCs12.o;have o8:=HCs13.o;have o9:=HCs14.o;have x0:=HXb.o.lt;have x1:=HXz.o.lt;omega)));replace HXb:=Hd hx;clear hx hon hbo HW3
  first|refine⟨rfl,hK.o _ _ ?_⟩|refine hK.o _ _ ?_
  clear hK K;clear ra0 ra1 ra2 ra3;clear _ne;have hfin:(((((owP B n 1).setL 1 0 (wo n B.s1.lib)).setL 1 1 (wo n B.s1.hand)).setL 1 2 (wo n B.s1.fld)).setL 1 3 (wo n B.s1.grv))=owP B n 2:=rfl;rw[hfin] at HXb HOb
  have HSN:Hid (OuP w B n (.int .i64 2) ws3):=Hd ⟨⟨2,_,by omega,rfl,HXb.o,HOb.o.mono (Nat.le_refl _) (by(have o0:=HNC.o;have o1:=HL0.o;have o2:=HL1.o;have o3:=HL2.o;have o4:=HL3.o;have o5:=HL4.o;have o6:=HCs11.o;have o7:=HCs12.o;have o8:=HCs13.o;have o9:=HCs14.o;have x0:=HXb.o.lt;have x1:=HXz.o.lt;omega))⟩,HB.o,HXz.o⟩;go_wp2_with fail
  go_roundw
  case rel=>exact HSN.o
  case measure=>simp[intOf]
 rw[show((2:Nat):Int)=2 from rfl]
 obtain⟨l',hl',hox,hot⟩:=ho.st
 obtain⟨qa,qc,hqv⟩:=hox.1.form
 have hll:l'.length=B.st.length:=by
  have h1:=congrArg List.length hl';rw[List.length_map] at h1
  exact h1
 have HLE:=Hd hl';have HLL:=Hd hll;have hln:l'.length<=1000:=by rw[hll];exact HSM.o.st
 have HLN:=Hd hln;have hm9:l'.length<=9223372036854775807:=by omega
 have HQV:=Hd hqv;rw[hqv] at hox
 have HOX:=Hd hox;have HOT:=Hd hot;clear hl' hll hqv hox hot ho hln
 obtain⟨wo1,hwo1⟩:∃W,W=wr:=⟨_,rfl⟩
 rw[<-hwo1] at HB HXb HXz HOb HNC HOX HOT ⊢
 have HW1:=Hd hwo1;clear hwo1 HW1;go_wp2_with fail
 go_loopw [7,8] (fun lv i wr=>OuS wo1 n l' lv i wr) (fun _ i _=>l'.length-(intOf i).toNat)
 case atStart=>exact⟨0,none,0,0,by omega,rfl,rfl,rfl,Below.refl _ _,Ow.nil _ _ _⟩
 obtain⟨k,la,lc,m,hk,hm,rfl,rfl,hb,ho⟩:=hrel
 have HBR:=Hd hb;have HOW:=Hd ho;have HM:=Hd hm;have hmk:m<=k:=by rw[hm];exact Nat.le_trans (List.length_filter_le _ _) (by simp;omega)
 have HXR:=Hd (HXb.o.below hb);have c29:wr.cell? ⟨w.heap.size,29,none⟩=some (.slice qa l'.length qc):=by rw[<-HQV.o];exact HXR.o.cell 29
 have hm9:l'.length<=9223372036854775807:=by have:=HLN.o;omega
 clear ho hm hb
 by_cases hkl:k<l'.length
 case pos=>
  have t1:decide ((k:Int)<(l'.length:Int))=true:=decide_eq_true (by omega);have t1':decide (k<l'.length)=true:=decide_eq_true hkl
  obtain⟨x,hx⟩:∃x,l'[k]? =some x:=⟨_,List.getElem?_eq_getElem hkl⟩
  obtain⟨g,cap,hv,hg1,hg2,hg3⟩:=HOX.o.pos (by omega)
  simp only[Value.slice.injEq] at hv
  obtain⟨rfl,hq9,rfl⟩:=hv
  clear hq9;have hrg:wr.rangeAt g (k*5) (itc x):=(HOX.o.below HBR.o).range itc_len hx;have HXX:=Hd hx
  obtain⟨y,⟨ta,tn,tc'⟩⟩:=x
  have d0:wr.cell? ⟨g,k*5,none⟩=some (.int .i64 y.pl):=hrg 0 _ rfl;have d1:wr.cell? ⟨g,k*5+1,none⟩=some (.int .i64 y.id):=hrg 1 _ rfl;have d2:wr.cell? ⟨g,k*5+2,none⟩=some (.int .i64 y.cd):=hrg 2 _ rfl;have d3:wr.cell? ⟨g,k*5+3,none⟩=some (.int .i64 y.tr):=hrg 3 _ rfl;have d4:wr.cell? ⟨g,k*5+4,none⟩=some (.slice ta tn tc'):=hrg 4 _ rfl;have i1:(0:Int)<=(k:Int):=by omega
  have i2:(k:Int)<(l'.length:Int):=by omega
  clear hrg hx hg1 hg2 hg3
  go_upto_region 12 with fail
  obtain⟨w3,hw3⟩:∃W,W=wr.alloc (.cells #[.int .i64 y.pl,.int .i64 y.id,.int .i64 y.cd,.int .i64 y.tr,.slice ta tn tc'] 73):=⟨_,rfl⟩
  obtain⟨T,hT⟩:∃n,n=wr.heap.size:=⟨_,rfl⟩
  rw[<-hw3,<-hT];have hb3:Below wr.heap.size wr w3:=by rw[hw3];exact(Below.refl _ _).alloc (Nat.le_refl _) _
  have HT:Hid (Ro w3 T #[.int .i64 y.pl,.int .i64 y.id,.int .i64 y.cd,.int .i64 y.tr,.slice ta tn tc'] 73):=Hd (by rw[hw3,hT];exact Ro.new _ _ _);replace HBR:=Hd (below_via HBR.o hb3);replace HOW:=Hd (HOW.o.below hb3);clear hw3 hT hb3 d0 d1 d2 d3 d4 c29 t1 t1' i1 i2;have z0:w3.cell? ⟨T,0,none⟩=some (.int .i64 y.pl):=HT.o.cell 0;have z1:w3.cell? ⟨T,1,none⟩=some (.int .i64 y.id):=HT.o.cell 1;have z2:w3.cell? ⟨T,2,none⟩=some (.int .i64 y.cd):=HT.o.cell 2;have z3:w3.cell? ⟨T,3,none⟩=some (.int .i64 y.tr):=HT.o.cell 3;have z4:w3.cell? ⟨T,4,none⟩=some (.slice ta tn tc'):=HT.o.cell 4
  by_cases hno:y.tr= -1/\y.id=n
  ·have t2:(y.tr != -1)=false:=by simp[hno.1]
   have t3:(y.id !=n)=false:=by simp[hno.2]
   have HF:Hid ((l'.take (k+1)).filter (fun y=>notIt n y.1)=(l'.take k).filter (fun y=>notIt n y.1)):=Hd (by rw[filt_next HXX.o];simp[notIt,hno.1,hno.2]);clear hno;go_wp2_with fail
   go_roundw
   case rel=>exact⟨k+1,la,lc,m,by omega,by rw[HF.o,HM.o],by go_num,rfl,HBR.o,by rw[HF.o];exact HOW.o⟩
   case measure=>simp[intOf];omega
  have HF:Hid ((l'.take (k+1)).filter (fun y=>notIt n y.1)=(l'.take k).filter (fun y=>notIt n y.1)++[(y,(⟨ta,tn,tc'⟩:Sl))]):=Hd (by rw[filt_next HXX.o];by_cases h1:y.tr= -1<;>by_cases h2:y.id=n<;>simp[notIt,h1,h2]<;>exact absurd ⟨h1,h2⟩ hno)
  have h99:(y.tr != -1)=true\/((y.tr != -1)=false/\(y.id !=n)=true):=by
   by_cases h1:y.tr= -1
   ·exact .inr ⟨by simp[h1],by simp;exact fun h2=>hno ⟨h1,h2⟩⟩
   exact .inl (by simp[h1])
  clear hno;have HAPP:=Hd True.intro;rcases h99 with t2|⟨t2,t3⟩
  ·go_upto_region 13 with fail
   go_wp2_with (at_builtin;refine wpList_append_ow (f:=itc) (sz:=5) rfl _ _ 30 rfl wo1.heap.size 73 (.agg #[.int .i64 0,.int .i64 0,.int .i64 0,.int .i64 0,.slice none 0 0]) 56 Tryz.underlying30 infoX rfl (by decide) _ ((l'.take k).filter (fun y=>notIt n y.1)) rfl (HOW.o.below ((Below.refl _ _).alloc (Nat.le_refl _) _)) itc_ok _ [(y,⟨ta,tn,tc'⟩)] rfl (Rw.one2 (f:=itc) (sz:=5) _ 73 (y,⟨ta,tn,tc'⟩) #[.int .i64 y.pl,.int .i64 y.id,.int .i64 y.cd,.int .i64 y.tr,.slice ta tn tc'] rfl 1 _ rfl) ?c2 ?c3 ?c4 ?_)
   case c2=>have h1:=HM.o;have h2:=HLN.o;rw[<-h1];simp[maxLen];omega
   case c3=>have h1:=HM.o;have h2:=HLN.o;rw[<-h1];simp;omega
   case c4=>have:=HBR.o.size;simp;omega
   intro v8 w8 ho8 hg8 hv8
   obtain⟨va,vc,rfl⟩:=ho8.form
   obtain⟨m1,hm1⟩:∃m1,m1=((l'.take k).filter (fun y=>notIt n y.1)++[(y,(⟨ta,tn,tc'⟩:Sl))]).length:=⟨_,rfl⟩
   rw[<-hm1] at ho8 ⊢
   have hb8:Below wo1.heap.size wo1 w8:=(HBR.o.alloc HBR.o.size _).grown hg8 (by have:=HBR.o.size;simp;omega) (fun q hq=>(HOW.o.typ q hq).1);rw[<-HF.o] at hm1 ho8
   have HO8:=Hd ho8;have HB8:=Hd hb8;have HM1:=Hd hm1;clear ho8 hg8 hv8 hb8 hm1;go_wp2_with fail
   go_roundw
   case rel=>exact⟨k+1,va,vc,m1,by omega,HM1.o,by go_num,rfl,HB8.o,HO8.o⟩
   case measure=>simp[intOf];omega
  go_upto_region 13 with fail
  go_wp2_with (at_builtin;refine wpList_append_ow (f:=itc) (sz:=5) rfl _ _ 30 rfl wo1.heap.size 73 (.agg #[.int .i64 0,.int .i64 0,.int .i64 0,.int .i64 0,.slice none 0 0]) 56 Tryz.underlying30 infoX rfl (by decide) _ ((l'.take k).filter (fun y=>notIt n y.1)) rfl (HOW.o.below ((Below.refl _ _).alloc (Nat.le_refl _) _)) itc_ok _ [(y,⟨ta,tn,tc'⟩)] rfl (Rw.one2 (f:=itc) (sz:=5) _ 73 (y,⟨ta,tn,tc'⟩) #[.int .i64 y.pl,.int .i64 y.id,.int .i64 y.cd,.int .i64 y.tr,.slice ta tn tc'] rfl 1 _ rfl) ?c2 ?c3 ?c4 ?_)
  case c2=>have h1:=HM.o;have h2:=HLN.o;rw[<-h1];simp[maxLen];omega
  case c3=>have h1:=HM.o;have h2:=HLN.o;rw[<-h1];simp;omega
  case c4=>have:=HBR.o.size;simp;omega
  intro v8 w8 ho8 hg8 hv8
  obtain⟨va,vc,rfl⟩:=ho8.form
  obtain⟨m1,hm1⟩:∃m1,m1=((l'.take k).filter (fun y=>notIt n y.1)++[(y,(⟨ta,tn,tc'⟩:Sl))]).length:=⟨_,rfl⟩
  rw[<-hm1] at ho8 ⊢
  have hb8:Below wo1.heap.size wo1 w8:=(HBR.o.alloc HBR.o.size _).grown hg8 (by have:=HBR.o.size;simp;omega) (fun q hq=>(HOW.o.typ q hq).1);rw[<-HF.o] at hm1 ho8
  have HO8:=Hd ho8;have HB8:=Hd hb8;have HM1:=Hd hm1;clear ho8 hg8 hv8 hb8 hm1;go_wp2_with fail
  go_roundw
  case rel=>exact⟨k+1,va,vc,m1,by omega,HM1.o,by go_num,rfl,HB8.o,HO8.o⟩
  case measure=>simp[intOf];omega
 case neg=>
 obtain rfl:k=l'.length:=by omega
 have t1:decide ((l'.length:Int)<(l'.length:Int))=false:=decide_eq_false (by omega);have t1':decide (l'.length<l'.length)=false:=decide_eq_false (by omega);rw[List.take_length] at HM HOW
 go_upto_region 14 with fail
 clear t1 t1';replace HB:=Hd (below_via HB.o HBR.o);replace HXb:=Hd (HXb.o.below HBR.o);replace HXz:=Hd (HXz.o.below HBR.o);replace HOb:=Hd (HOb.o.below HBR.o);replace HOT:Hid (∀x∈l',TgO (w.heap.size+1+1) wo1.heap.size wr x.2.v x.1.tg):=Hd (fun x hx=>(HOT.o x hx).below HBR.o);have HSZ1:Hid (w.heap.size+1+1<=wo1.heap.size):=HNC;have HS1:Hid (wo1.heap.size<=wr.heap.size):=Hd HBR.o.size;have HST:=Hd (Ox.of HOW.o)
 obtain⟨ba,bc,hbv⟩:=HOb.o.bl.1.form
 have HBV:=Hd hbv;have hbx:=HOb.o.bl;rw[hbv] at hbx
 have HBX:=Hd hbx;have HBL:Hid (B.bl.length<=1000):=Hd HSM.o.bl;have hbl9:B.bl.length<=9223372036854775807:=by have:=HBL.o;omega
 clear hbv hbx HBR HOW HOX hmk hm9 HXR c29 HQV
 obtain⟨wo2,hwo2⟩:∃W,W=wr:=⟨_,rfl⟩
 rw[<-hwo2] at HB HXb HXz HOb HOT HS1 HST HBX ⊢
 have HW2:=Hd hwo2;clear hwo2 HW2;go_wp2_with fail
 go_loopw [10,11] (fun lv i wr=>OuK wo2 n B.bl lv i wr) (fun _ i _=>B.bl.length-(intOf i).toNat)
 case atStart=>exact⟨0,none,0,0,by omega,rfl,rfl,rfl,Below.refl _ _,Ow.nil _ _ _⟩
 obtain⟨k,ka,kc',q,hk,hm,rfl,rfl,hb,ho⟩:=hrel
 have HBR:=Hd hb;have HOW:=Hd ho;have HQ:=Hd hm;have hmk:q<=k:=by rw[hm];exact Nat.le_trans (List.length_filter_le _ _) (by simp;omega)
 have HXR:=Hd (HXb.o.below hb);have c32:wr.cell? ⟨w.heap.size,32,none⟩=some (.slice ba B.bl.length bc):=(HXR.o.cell 32).trans (congrArg some HBV.o);have hbl9:B.bl.length<=9223372036854775807:=by have:=HBL.o;omega
 clear ho hm hb
 by_cases hkl:k<B.bl.length
 case pos=>
  have t1:decide ((k:Int)<(B.bl.length:Int))=true:=decide_eq_true (by omega);have t1':decide (k<B.bl.length)=true:=decide_eq_true hkl
  obtain⟨x,hx⟩:∃x,B.bl[k]? =some x:=⟨_,List.getElem?_eq_getElem hkl⟩
  obtain⟨g,cap,hv,hg1,hg2,hg3⟩:=HBX.o.pos (show 0<(owP B n 2).bl.length from(by show 0<B.bl.length;omega))
  replace hv:Value.slice ba B.bl.length bc= .slice (some ⟨g,0,none⟩) B.bl.length cap:=hv;simp only[Value.slice.injEq] at hv
  obtain⟨rfl,hq9,rfl⟩:=hv
  clear hq9;have hrg:wr.rangeAt g (k*2) (kc x):=(HBX.o.below HBR.o).range kc_len hx;have HXX:=Hd hx;have d0:wr.cell? ⟨g,k*2,none⟩=some (.int .i64 x.bl):=hrg 0 _ rfl;have d1:wr.cell? ⟨g,k*2+1,none⟩=some (.int .i64 x.at'):=hrg 1 _ rfl;have i1:(0:Int)<=(k:Int):=by omega
  have i2:(k:Int)<(B.bl.length:Int):=by omega
  clear hrg hx hg1 hg2 hg3
  go_upto_region 19 with fail
  obtain⟨w3,hw3⟩:∃W,W=wr.alloc (.cells #[.int .i64 x.bl,.int .i64 x.at'] 89):=⟨_,rfl⟩
  obtain⟨T,hT⟩:∃n,n=wr.heap.size:=⟨_,rfl⟩
  rw[<-hw3,<-hT];have hb3:Below wr.heap.size wr w3:=by rw[hw3];exact(Below.refl _ _).alloc (Nat.le_refl _) _
  have HT:Hid (Ro w3 T #[.int .i64 x.bl,.int .i64 x.at'] 89):=Hd (by rw[hw3,hT];exact Ro.new _ _ _);replace HBR:=Hd (below_via HBR.o hb3);replace HOW:=Hd (HOW.o.below hb3);clear hw3 hT hb3 d0 d1 c32 t1 t1' i1 i2;have z0:w3.cell? ⟨T,0,none⟩=some (.int .i64 x.bl):=HT.o.cell 0;have z1:w3.cell? ⟨T,1,none⟩=some (.int .i64 x.at'):=HT.o.cell 1
  by_cases hno:x.bl=n\/x.at' =n
  ·have h99:(x.bl !=n)=false\/((x.bl !=n)=true/\(x.at' !=n)=false):=by
    by_cases h1:x.bl=n
    ·exact .inl (by simp[h1])
    exact .inr ⟨by simp[h1],by simp;exact hno.resolve_left h1⟩
   have HF:Hid ((B.bl.take (k+1)).filter (notBk n)=(B.bl.take k).filter (notBk n)):=Hd (by rw[filt_next HXX.o];rcases hno with h1|h1<;>simp[notBk,h1]);clear hno;rcases h99 with t2|⟨t2,t3⟩
   all_goals
    go_wp2_with fail
    go_roundw
    case rel=>exact⟨k+1,ka,kc',q,by omega,by rw[HF.o,HQ.o],by go_num,rfl,HBR.o,by rw[HF.o];exact HOW.o⟩
    case measure=>simp[intOf];omega
  have t2:(x.bl !=n)=true:=by simp;exact fun h=>hno (.inl h)
  have t3:(x.at' !=n)=true:=by simp;exact fun h=>hno (.inr h)
  have HF:Hid ((B.bl.take (k+1)).filter (notBk n)=(B.bl.take k).filter (notBk n)++[x]):=Hd (by
   have h1:x.bl≠n:=fun h=>hno (.inl h)
   have h2:x.at'≠n:=fun h=>hno (.inr h)
   rw[filt_next HXX.o];simp[notBk,h1,h2])
  clear hno
  go_upto_region 20 with fail
  clear t2 t3;go_wp2_with (at_builtin;refine wpList_append_ow (f:=kc) (sz:=2) rfl _ _ 31 rfl wo2.heap.size 89 (.agg #[.int .i64 0,.int .i64 0]) 16 Tryz.underlying31 infoK rfl (by decide) _ ((B.bl.take k).filter (notBk n)) rfl (HOW.o.below ((Below.refl _ _).alloc (Nat.le_refl _) _)) kc_ok _ [x] rfl (Rw.one2 (f:=kc) (sz:=2) _ 89 x #[.int .i64 x.bl,.int .i64 x.at'] rfl 1 _ rfl) ?c2 ?c3 ?c4 ?_)
  case c2=>have h1:=HQ.o;have h2:=HBL.o;rw[<-h1];simp[maxLen];omega
  case c3=>have h1:=HQ.o;have h2:=HBL.o;rw[<-h1];simp;omega
  case c4=>have:=HBR.o.size;simp;omega
  intro v8 w8 ho8 hg8 hv8
  obtain⟨va,vc,rfl⟩:=ho8.form
  obtain⟨m1,hm1⟩:∃m1,m1=((B.bl.take k).filter (notBk n)++[x]).length:=⟨_,rfl⟩
  rw[<-hm1] at ho8 ⊢
  have hb8:Below wo2.heap.size wo2 w8:=(HBR.o.alloc HBR.o.size _).grown hg8 (by have:=HBR.o.size;simp;omega) (fun q hq=>(HOW.o.typ q hq).1);rw[<-HF.o] at hm1 ho8
  have HO8:=Hd ho8;have HB8:=Hd hb8;have HM1:=Hd hm1;clear ho8 hg8 hv8 hb8 hm1;go_wp2_with fail
  go_roundw
  case rel=>exact⟨k+1,va,vc,m1,by omega,HM1.o,by go_num,rfl,HB8.o,HO8.o⟩
  case measure=>simp[intOf];omega
 case neg=>
 obtain rfl:k=B.bl.length:=by omega
 have t1:decide ((B.bl.length:Int)<(B.bl.length:Int))=false:=decide_eq_false (by omega);have t1':decide (B.bl.length<B.bl.length)=false:=decide_eq_false (by omega);rw[List.take_length] at HQ HOW
 go_upto_region 21 with fail
 clear t1 t1';replace HB:=Hd (below_via HB.o HBR.o);replace HXb:=Hd (HXb.o.below HBR.o);replace HXz:=Hd (HXz.o.below HBR.o);replace HOb:=Hd (HOb.o.below HBR.o);replace HOT:Hid (∀x∈l',TgO (w.heap.size+1+1) wo1.heap.size wr x.2.v x.1.tg):=Hd (fun x hx=>(HOT.o x hx).below HBR.o);replace HST:=Hd (HST.o.below HBR.o);have HS2:Hid (wo2.heap.size<=wr.heap.size):=Hd HBR.o.size;have HBK:=Hd (Ox.of HOW.o)
 obtain⟨ta,tc,htv⟩:=(HOb.o.il 8 (by omega)).1.form
 have HTV:=Hd htv;have c31:wr.cell? ⟨w.heap.size,31,none⟩=some (.slice ta B.att.length tc):=(HXb.o.cell 31).trans (congrArg some htv)
 have HRA:Hid (Rw ic 1 wr (.slice ta B.att.length tc) B.att):=Hd (by
  have h1:=(HOb.o.il 8 (by omega)).rw ic_len;rw[htv] at h1
  exact h1)
 clear htv HBR HOW HBX hmk hbl9 HXR c32 HBV;go_wp2_with fail
 clear c31;with_reducible refine(rwithout _ B.att n _ HRA.o HSM.o.att).mono ?_
 rintro e we1 ⟨xa,xc,rfl,hox,hb⟩;have HCe1:Hid (wr.heap.size<=we1.heap.size):=Hd (hb.size);replace HB:=Hd (below_via HB.o hb);replace HXb:=Hd (HXb.o.below hb);replace HXz:=Hd (HXz.o.below hb);have HWA:=Hd hox;replace HOb:=Hd (HOb.o.below hb);replace HOT:Hid (∀x∈l',TgO (w.heap.size+1+1) wo1.heap.size we1 x.2.v x.1.tg):=Hd (fun x hx=>(HOT.o x hx).below hb);replace HST:=Hd (HST.o.below hb);replace HBK:=Hd (HBK.o.below hb);clear hox hb HRA;have b1:=HOb.o.newS (hi3:=wo2.heap.size) ⟨la,m,lc⟩ (l'.filter (fun y=>notIt n y.1)) HST.o (fun x hx=>HOT.o x (List.mem_filter.1 hx).1) (Nat.le_refl _) (by(have o0:=HSZ1.o;have o1:=HS1.o;have o2:=HS2.o;have o3:=HCe1.o;have x0:=HXb.o.lt;have x1:=HXz.o.lt;omega)) (Nat.le_refl _) (by(have o0:=HSZ1.o;have o1:=HS1.o;have o2:=HS2.o;have o3:=HCe1.o;have x0:=HXb.o.lt;have x1:=HXz.o.lt;omega));have b2:=b1.newBl (hi3:=wr.heap.size) ⟨ka,q,kc'⟩ (B.bl.filter (notBk n)) HBK.o (by(have o0:=HSZ1.o;have o1:=HS1.o;have o2:=HS2.o;have o3:=HCe1.o;have x0:=HXb.o.lt;have x1:=HXz.o.lt;omega)) (Nat.le_refl _) (by(have o0:=HSZ1.o;have o1:=HS1.o;have o2:=HS2.o;have o3:=HCe1.o;have x0:=HXb.o.lt;have x1:=HXz.o.lt;omega));have b3:=b2.newAt (hi3:=we1.heap.size) ⟨xa,(wo n B.att).length,xc⟩ (wo n B.att) HWA.o (Nat.le_refl _) (by(have o0:=HSZ1.o;have o1:=HS1.o;have o2:=HS2.o;have o3:=HCe1.o;have x0:=HXb.o.lt;have x1:=HXz.o.lt;omega)) (Nat.le_refl _) (by(have o0:=HSZ1.o;have o1:=HS1.o;have o2:=HS2.o;have o3:=HCe1.o;have x0:=HXb.o.lt;have x1:=HXz.o.lt;omega))
 have hfin:({{{(owP B n 2) with st:=(l'.filter (fun y:It×Sl=>notIt n y.1)).map Prod.fst} with bl:=B.bl.filter (notBk n)} with att:=wo n B.att}:Bd)=outB B n:=by
  have h1:(l'.filter (fun y:It×Sl=>notIt n y.1)).map Prod.fst=B.st.filter (notIt n):=by
   rw[map_filtI (p:=notIt n),HLE.o]
   rfl
  rw[h1]
  rfl
 rw[hfin] at b3
 have HO3:=Hd b3;clear b1 b2 b3 hfin HOb;have c29:we1.cell? ⟨w.heap.size,29,none⟩=some (s'.st.v):=HXb.o.cell 29;have c32:we1.cell? ⟨w.heap.size,32,none⟩=some (s'.bl.v):=HXb.o.cell 32;have c31:we1.cell? ⟨w.heap.size,31,none⟩=some (s'.at'.v):=HXb.o.cell 31;have f29:=HXb.o.free 29;have f32:=HXb.o.free 32;have f31:=HXb.o.free 31
 go_upto_region 22 with fail
 obtain⟨w9,hw⟩:∃X,X=((we1.setCell ⟨w.heap.size,29,none⟩ (.slice la m lc)).setCell ⟨w.heap.size,32,none⟩ (.slice ka q kc')).setCell ⟨w.heap.size,31,none⟩ (.slice xa (wo n B.att).length xc):=⟨_,rfl⟩
 rw[<-hw];have hon:Onl [w.heap.size] we1 w9:=by rw[hw];exact((Onl.setCell (Onl.refl _ _) (.inl (by simp)) _).setCell (.inl (by simp)) _).setCell (.inl (by simp)) _
 have hx:Bx w9 w.heap.size {{{s' with st:=⟨la,m,lc⟩} with bl:=⟨ka,q,kc'⟩} with at':=⟨xa,(wo n B.att).length,xc⟩} (outB B n):=by
  rw[hw];have x1:=HXb.o.put (s':={s' with st:=⟨la,m,lc⟩}) (B':=owP B n 2) 29 _ rfl;have x2:=x1.put (s':={{s' with st:=⟨la,m,lc⟩} with bl:=⟨ka,q,kc'⟩}) (B':=owP B n 2) 32 _ rfl;exact x2.put 31 _ rfl
 replace HO3:=Hd (HO3.o.onlB hon HXb.o);clear hw c29 c31 c32 f29 f31 f32;have hlo:w.heap.size<=w.heap.size:=by(have o0:=HSZ1.o;have o1:=HS1.o;have o2:=HS2.o;have o3:=HCe1.o;have x0:=HXb.o.lt;have x1:=HXz.o.lt;omega)
 have hls:w.heap.size<=we1.heap.size:=HB.o.size;replace HB:=Hd (belowOnl HB.o hon (by simp only[List.mem_singleton,forall_eq];exact hlo) hls);replace HXz:=Hd (HXz.o.onl hon (by simp only[List.mem_singleton];(have o0:=HSZ1.o;have o1:=HS1.o;have o2:=HS2.o;have o3:=HCe1.o;have x0:=HXb.o.lt;have x1:=HXz.o.lt;omega)));have HCe2:Hid (we1.heap.size<=w9.heap.size):=Hd (hon.size);clear hlo hls;replace HXb:=Hd hx;clear hx hon;go_wp2_with (first|(refine wpList_load_bx _ rfl rfl HXb.o (by kernel_rfl) ?_)|(refine wpList_store_bh (s:={{{s' with st:=⟨la,m,lc⟩} with bl:=⟨ka,q,kc'⟩} with at':=⟨xa,(wo n B.att).length,xc⟩}) (B:=(outB B n)) rfl _ _ rfl rfl rfl HXz.o rfl ?_;intro we2 hw9))
 have hg9:Bx we2 (w.heap.size+1) {{{s' with st:=⟨la,m,lc⟩} with bl:=⟨ka,q,kc'⟩} with at':=⟨xa,(wo n B.att).length,xc⟩} ((outB B n)):=by rw[hw9.out];exact Bx.row HXz.o _ _
 have ho9:Onl [w.heap.size+1] w9 we2:=by rw[hw9.out];exact Onl.setRow (Onl.refl _ _) (.inl (by simp)) _
 have hlo:w.heap.size<=w.heap.size+1:=by(have o0:=HSZ1.o;have o1:=HS1.o;have o2:=HS2.o;have o3:=HCe1.o;have o4:=HCe2.o;have x0:=HXb.o.lt;have x1:=HXz.o.lt;omega)
 have hb9:Below w.heap.size w we2:=belowOnl HB.o ho9 (by simp only[List.mem_singleton,forall_eq];exact hlo) HB.o.size;have HG9:=Hd hg9;have HPOST:Hid (CpA w ((outB B n)) (.returned (bv {{{s' with st:=⟨la,m,lc⟩} with bl:=⟨ka,q,kc'⟩} with at':=⟨xa,(wo n B.att).length,xc⟩} ((outB B n)))) we2):=Hd ⟨_,rfl,(HO3.o.onlB ho9 HXz.o).mono (by(have o0:=HSZ1.o;have o1:=HS1.o;have o2:=HS2.o;have o3:=HCe1.o;have o4:=HCe2.o;have x0:=HXb.o.lt;have x1:=HXz.o.lt;omega)) (by have h9:=ho9.size;(have o0:=HSZ1.o;have o1:=HS1.o;have o2:=HS2.o;have o3:=HCe1.o;have o4:=HCe2.o;have x0:=HXb.o.lt;have x1:=HXz.o.lt;omega)),hb9⟩;clear hw9 hg9 ho9 hb9 hlo;go_wp2_with fail
 exact bodyPost_ret (v:=bv {{{s' with st:=⟨la,m,lc⟩} with bl:=⟨ka,q,kc'⟩} with at':=⟨xa,(wo n B.att).length,xc⟩} ((outB B n))) (results_b0 Tryz.results50 _ _ HG9.o rfl) rfl HPOST.o
end Go.Proofs.YtpbepnpnpopmfaaGreat
