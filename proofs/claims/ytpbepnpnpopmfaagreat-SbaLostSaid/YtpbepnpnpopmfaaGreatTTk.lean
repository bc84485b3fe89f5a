/- An object is removed, by the reference. A token, by the reference, where all ids below the next one are there. -/
import Derived.Test.YtpbepnpnpopmfaaGreatTMv
import Derived.Test.YtpbepnpnpopmfaaGreatUVe
import Derived.Deep.DeepCutAuto
import Derived.LoopTactic
import Derived.Deep.MidRow
open Go.RowKit Go.Proofs.YtpbepnpnpopmfaaGreat
set_option maxRecDepth 100000
set_option maxHeartbeats 4000000
namespace Go.Proofs.YtpbepnpnpopmfaaGreat
open Plain
set_option linter.unusedVariables false
set_option linter.unusedSimpArgs false

theorem rg30_3{P:Program}{B n:Nat}{w0:World}{L:List (Nat×Nat×Value)}{E F:World->Prop}{id:Nat}{Q:Exit->Act->World->Prop}{a:Act}{w:World}{A:Array Oper}{o0 o1 o2 o3 o4 o5 o6 o7 o8 o9 o10 o11 o12:Oper}(hm:P.follows .mixedOrders=true)(hA:A=[o0,o1,o2,o3,o4,o5,o6,o7,o8,o9,o10,o11,o12].toArray)(hB:regOk A [1,6] [0,2,3,5,7,8,9,11] (.fs [0,2,5,7,8] (.rs [1] (.fs [3] (.rs [6] (.fs [9] (.alt 4 (.altc 10 (.fs [11] (.altc 12 .done .stop)) .stop) .stop))))))=true)(c:RC B w0 n L E F w)
  (h:∀wk,Kept B w0 n L wk->E wk->F wk->wpQuiet P A (fun _=>True) (fun a0=>wpQuiet P A (fun w' =>∃s:KX B w0 n L E,w' =s.val) (fun a1=>wpQuiet P A (fun _=>True) (fun a2=>wpQuiet P A (fun w' =>∃s:KX B w0 n L E,w' =s.val) (fun a3=>wpQuiet P A (fun _=>True) (fun a4=>((∀K5:Act->World->Prop,(∀a5 w5,((∀K6:Act->World->Prop,(∀a6 w6,wpQuiet P A (fun _=>True) (fun a7=>((∀K8:Act->World->Prop,(∀a8 w8,Q .normal a8 w8->K8 a8 w8)->wpList P A (fun e a8 w8=>e= .normal/\K8 a8 w8) [o12] a7 w6)/\True)) [o11] a6->K6 a6 w6)->wpList P A (fun e a6 w6=>e= .normal/\K6 a6 w6) [o10] a5 w5)/\True)->K5 a5 w5)->wpList P A (fun e a5 w5=>e= .normal/\(∃s:KX B w0 n L E,w5=s.val)/\K5 a5 w5) [o4] a4 wk)/\True)) [o9] a3) [o6] a2) [o3] a1) [o1] a0) [o0,o2,o5,o7,o8] a):(Code.region id A true).wp P Q a w:=by
 subst hA;exact wp_reg _ _ _ hm hB c (fun wk k e f=>have g:=h wk k e f;Scr.of_fs _ _ rfl g fun _ g=>Scr.of_rs _ _ rfl g fun _ g=>Scr.of_fs _ _ rfl g fun _ g=>Scr.of_rs _ _ rfl g fun _ g=>Scr.of_fs _ _ rfl g fun _ g=>(Scr.of_alt rfl (g.1 _ fun _ _ g=>g) (fun _ _ g=>(Scr.of_altc rfl (g.1 _ fun _ _ g=>g) (fun _ _ g=>Scr.of_fs _ _ rfl g fun _ g=>(Scr.of_altc rfl (g.1 _ fun _ _ g=>g) (fun _ _ g=>g) trivial)) trivial)) trivial))
theorem BdO.newObj{lo hi:Nat}{w w':World}{s:Bs}{B:Bd}(h:BdO lo hi w s B)(hb:Below w.heap.size w w')(hlo:lo<=w.heap.size)(hhi:hi<=w'.heap.size)(v:Sl)(l:List Ob)(hv:Ow oc 12 47 w' w.heap.size v.v l):BdO lo w'.heap.size w' {s with ob:=v} {B with ob:=l}:=
 have h2:=(h.below hb).mono (Nat.le_refl _) hhi
 ⟨(Ox.of hv).mono hlo (Nat.le_refl _),h2.il,h2.nd,h2.st,h2.qu,h2.ns,h2.bl⟩
theorem rremove(s:Bs)(B:Bd)(k:Nat)(x:Ob)(w:World)(h:BdR w s B)(hsm:B.Sm)(htl:B.Tl)(hk:B.ob[k]? =some x)(hf:∀(j:Nat) (q:Ob),j<k->B.ob[j]? =some q->q.id≠x.id):Calls Tryz.prog 30 #[bv s B,.int .i64 x.id] w (CpA w (rmB B k x.id)):=by
 have HR:=Hd h;have HSM:=Hd hsm;have HTL:=Hd htl;have HKX:=Hd hk;have HF:=Hd hf;clear h hsm htl hk hf;go_enter Tryz.func30,Tryz.ntmps30
 go_upto_region 1 with fail
 change Code.wp Tryz.prog _ _ _ ((w.alloc (.cells (bcells s B) 34)).alloc (.cells (bcells nilS zeroB) 34))
 obtain⟨wz,hwz⟩:∃W,W=((w.alloc (.cells (bcells s B) 34)).alloc (.cells (bcells nilS zeroB) 34)):=⟨_,rfl⟩
 rw[<-hwz];have b0:Below w.heap.size w (w.alloc (.cells (bcells s B) 34)):=by exact(Below.refl _ _).alloc (Nat.le_refl _) _
 have b1:Below (w.alloc (.cells (bcells s B) 34)).heap.size (w.alloc (.cells (bcells s B) 34)) wz:=by rw[hwz];exact(Below.refl _ _).alloc (Nat.le_refl _) _
 have HB:Hid (Below w.heap.size w wz):=Hd (below_via b0 b1);have HXb:Hid (Bx wz (w.heap.size) s B):=Hd ((Ro.new w (bcells s B) 34).below b1:Ro _ _ _ _);have HXz:Hid (Bx wz (w.heap.size+1) nilS zeroB):=Hd (by rw[show w.heap.size+1=(w.alloc (.cells (bcells s B) 34)).heap.size by simp];exact(by rw[hwz];exact(Ro.new (w.alloc (.cells (bcells s B) 34)) (bcells nilS zeroB) 34)));have HC1:Hid (w.heap.size+2<=wz.heap.size):=Hd (by rw[hwz];simp);clear hwz b0 b1;go_wp2_with (first|(refine wpList_load_bx _ rfl rfl HXb.o (by kernel_rfl) ?_))
 with_reducible refine(rout s B x.id _ (HR.o.below HB.o) HSM.o HTL.o).mono ?_
 rintro e w1 ⟨sc,rfl,ho,hb⟩;have HC2:Hid (wz.heap.size<=w1.heap.size):=Hd (hb.size);replace HB:=Hd (below_via HB.o hb);replace HXb:=Hd (HXb.o.below hb);replace HXz:=Hd (HXz.o.below hb);have HOc:=Hd ho;clear ho hb;go_wp2_with (first|(refine wpList_store_bh (s:=sc) (B:=(outB B x.id)) rfl _ _ rfl rfl rfl HXb.o rfl ?_))
 intro w2 hw0;have hon:Onl [w.heap.size] w1 w2:=by rw[hw0.out];exact Onl.setRow (Onl.refl _ _) (.inl (by simp)) _
 have hx:Bx w2 (w.heap.size) sc ((outB B x.id)):=by rw[hw0.out];exact Bx.row HXb.o _ _
 clear hw0;have hlo:w.heap.size<=w.heap.size:=by(have o0:=HC1.o;have o1:=HC2.o;have x0:=HXb.o.lt;have x1:=HXz.o.lt;omega)
 have hls:w.heap.size<=w1.heap.size:=HB.o.size;replace HB:=Hd (belowOnl HB.o hon (by simp only[List.mem_singleton,forall_eq];exact hlo) hls);replace HXz:=Hd (HXz.o.onl hon (by simp only[List.mem_singleton];(have o0:=HC1.o;have o1:=HC2.o;have x0:=HXb.o.lt;have x1:=HXz.o.lt;omega)));replace HOc:=Hd (HOc.o.onlB hon HXb.o);have HC3:Hid (w1.heap.size<=w2.heap.size):=Hd (hon.size);clear hlo hls;replace HXb:=Hd hx;clear hx hon;go_wp2_with (first|(refine wpList_load_bx _ rfl rfl HXb.o (by kernel_rfl) ?_))
 with_reducible refine(rindex sc (outB B x.id) x.id _ HOc.o.rd).mono ?_
 rintro e w3 ⟨⟨r,rfl,hr⟩,hb⟩;have HC4:Hid (w2.heap.size<=w3.heap.size):=Hd (hb.size);replace HB:=Hd (below_via HB.o hb);replace HXb:=Hd (HXb.o.below hb);replace HXz:=Hd (HXz.o.below hb);replace HOc:=Hd (HOc.o.below hb)
 obtain rfl:r=k:=by
  rcases hr with⟨_,h1⟩|⟨i,q,rfl,h2,h3,h4⟩
  ·exact absurd rfl (h1 k x HKX.o)
  rcases Nat.lt_trichotomy i k with h5|h5|h5
  ·exact absurd h3 (HF.o i q h5 h2)
  ·rw[h5]
  exact absurd rfl (h4 k x h5 HKX.o)
 have hkl:k<B.ob.length:=(List.getElem?_eq_some_iff.1 HKX.o).1
 obtain⟨g,cap,hov,hg1,hg2,hg3⟩:=HOc.o.ob.pos (by show 0<B.ob.length;omega)
 have hox:Ox oc 12 47 (wz.heap.size) (w1.heap.size) w3 sc.ob.v B.ob:=HOc.o.ob;have hov2:sc.ob.v= .slice (some ⟨g,0,none⟩) B.ob.length cap:=hov;rw[hov2] at hox
 have c0:w3.cell? ⟨w.heap.size,0,none⟩=some (.slice (some ⟨g,0,none⟩) B.ob.length cap):=(HXb.o.cell 0).trans (congrArg some hov2);have hbl:w.heap.size<w3.heap.size:=HXb.o.lt
 obtain⟨hlc,hcm⟩:B.ob.length<=cap/\cap<=maxLen:=by
  rcases hox.1.2 with⟨h1,_⟩|⟨g',cap',cur,h1,h2,h3,h4,h5,h6,h7⟩
  ·cases h1
  cases h1
  exact⟨h4,h5⟩
 have hrw:=hox.rw oc_len
 obtain⟨o',hA,hA2⟩:∃o':Nat,(if cap=k+1 then (some (⟨g,0,none⟩:Addr)) else some ⟨g,(k+1)*12,none⟩)=some ⟨g,o',none⟩/\(k+1<B.ob.length->o' =0+(k+1)*12):=by
  by_cases h:cap=k+1
  ·exact⟨0,by rw[if_pos h],fun h2=>by omega⟩
  exact⟨(k+1)*12,by rw[if_neg h],fun _=>by omega⟩
 have HT:Hid (Rw oc 12 w3 (.slice (some ⟨g,0,none⟩) k cap) (B.ob.take k)):=Hd (hrw.take (by omega) cap (fun h=>by cases h));have HDR:Hid (Rw oc 12 w3 (.slice (some ⟨g,o',none⟩) (B.ob.length-(k+1)) (cap-(k+1))) (B.ob.drop (k+1))):=Hd (hrw.drop (by omega) _ _ hA2);have hol:B.ob.length<=1000:=HSM.o.ob;have HOL:=Hd hol;unfold maxLen at hcm
 have k1:k<=cap:=by omega
 have k2:k+1<=B.ob.length:=by omega
 have hw1:wrap64 ((k:Int)+1)=(k:Int)+1:=by unfold wrap64;omega
 clear hr hb hkl hov hov2 hox hrw hA2 hg1 hg2 hg3
 go_upto_region 3 with fail
 refine rg30_3 (w0:=w3) (B:=w3.heap.size) (n:=w3.heap.size) (L:=[]) (by kernel_rfl) rfl (by kernel_rfl) (.t ⟨by go_grown,by go_size,(by simp[go_sem]<;>omega)⟩) (fun w91 K_w91 E_w91 F_w91=> ?_);have _ne:Nonempty (KX (w3.heap.size) w3 (w3.heap.size) [] (fun _=>True)):=⟨⟨_,K_w91,E_w91⟩⟩
 repeat (go_big_quiet_step (fail))
 refine wpQuiet_nil ?_;have ra:=rck _ne c0 hbl
 repeat (go_big_quiet_step (fail))
 refine wpQuiet_nil ?_
 repeat (go_big_quiet_step (fail))
 refine wpQuiet_nil ?_
 repeat (go_big_quiet_step (fail))
 refine wpQuiet_nil ?_
 repeat (go_big_quiet_step (fail))
 refine wpQuiet_nil ?_;have KH_w91:=Hd K_w91;have hw_w91:=K_w91.below;have hz_w91:=K_w91.size;clear K_w91;clear E_w91 F_w91
 refine⟨fun K hK0=> ?_,trivial⟩
 have hK:=Hd hK0;clear hK0;go_wp2_with (at_builtin;refine wpList_append_ow (f:=oc) (sz:=12) rfl _ _ 23 rfl w3.heap.size 47 _ 80 Tryz.underlying23 infoO rfl (by decide) _ [] rfl (Ow.nil _ _ _) oc_ok _ (B.ob.take k) rfl (HT.o.below KH_w91.o.below) ?d1 ?d2 KH_w91.o.below.size ?_)
 case d1=>have:=HOL.o;simp[maxLen];omega
 case d2=>have:=HOL.o;simp;omega
 intro v1 wa hown hgrow hwh;have HA:Hid (Ow oc 12 47 wa w3.heap.size v1 (B.ob.take k)):=Hd hown;have HBA:Hid (Below w3.heap.size w3 wa):=Hd (KH_w91.o.below.grown hgrow KH_w91.o.below.size (by simp[Value.ownBlock]));clear hown hgrow hwh
 first|refine⟨rfl,?u,hK.o _ _ ?_⟩|refine⟨?u,hK.o _ _ ?_⟩
 case u=>exact⟨⟨_,(⟨HBA.o,HBA.o.size,by simp⟩:Kept w3.heap.size w3 w3.heap.size [] wa),trivial⟩,rfl⟩
 clear hK K
 refine⟨fun K hK0=> ?_,trivial⟩
 have hK:=Hd hK0;clear hK0;go_wp2_with (at_builtin;refine wpList_append_ow (f:=oc) (sz:=12) rfl _ _ 23 rfl w3.heap.size 47 _ 80 Tryz.underlying23 infoO rfl (by decide) _ (B.ob.take k) rfl HA.o oc_ok _ (B.ob.drop (k+1)) rfl (HDR.o.below HBA.o) ?d3 ?d4 HBA.o.size ?_)
 case d3=>have:=HOL.o;simp[maxLen];omega
 case d4=>have:=HOL.o;simp;omega
 intro v2 wb hown hgrow hwh
 obtain⟨vb,vd,rfl⟩:=hown.form
 obtain⟨n2,hn2⟩:∃n,n=(B.ob.take k++B.ob.drop (k+1)).length:=⟨_,rfl⟩
 rw[<-hn2] at hown ⊢
 rw[<-List.eraseIdx_eq_take_drop_succ] at hown
 have HOb:=Hd hown;have HBB:Hid (Below w3.heap.size w3 wb):=Hd (HBA.o.grown hgrow HBA.o.size (fun q hq=>(HA.o.typ q hq).1));replace HB:=Hd (below_via HB.o HBB.o);replace HXb:=Hd (HXb.o.below HBB.o);replace HXz:=Hd (HXz.o.below HBB.o);have HCb:Hid (w3.heap.size<=wb.heap.size):=Hd HBB.o.size;have HOn:=Hd (HOc.o.newObj HBB.o (by(have o0:=HC1.o;have o1:=HC2.o;have o2:=HC3.o;have o3:=HC4.o;have x0:=HXb.o.lt;have x1:=HXz.o.lt;omega)) (by have h1:=HCb.o;(have o0:=HC1.o;have o1:=HC2.o;have o2:=HC3.o;have o3:=HC4.o;have x0:=HXb.o.lt;have x1:=HXz.o.lt;omega)) ⟨vb,n2,vd⟩ (B.ob.eraseIdx k) HOb.o);have c9:wb.cell? ⟨w.heap.size,0,none⟩=some (sc.ob.v):=HXb.o.cell 0;have f9:=HXb.o.free 0;clear hown hgrow hwh hn2 HA HBA HT HDR HOc
 first|refine⟨rfl,hK.o _ _ ?_⟩|refine hK.o _ _ ?_
 clear hK K
 repeat (go_big_quiet_step (fail))
 refine wpQuiet_nil ?_
 refine⟨fun K hK0=> ?_,trivial⟩
 have hK:=Hd hK0;clear hK0;go_wp2_with fail
 first|refine⟨rfl,hK.o _ _ ?_⟩|refine hK.o _ _ ?_
 clear hK K;clear ra;clear _ne
 obtain⟨w10,hw⟩:∃X,X=wb.setCell ⟨w.heap.size,0,none⟩ (.slice vb n2 vd):=⟨_,rfl⟩
 rw[<-hw];have hon:Onl [w.heap.size] wb w10:=by rw[hw];exact Onl.setCell (Onl.refl _ _) (.inl (by simp)) _
 have hx:Bx w10 w.heap.size ({sc with ob:=⟨vb,n2,vd⟩}) (rmB B k x.id):=by rw[hw];exact HXb.o.put 0 _ rfl
 replace HOn:Hid (BdO (wz.heap.size) wb.heap.size wb ({sc with ob:=⟨vb,n2,vd⟩}) (rmB B k x.id)):=HOn;clear hw c9 f9 hA k1 k2 hw1 hlc hcm hol c0 hbl;have hlo:w.heap.size<=w.heap.size:=by(have o0:=HC1.o;have o1:=HC2.o;have o2:=HC3.o;have o3:=HC4.o;have o4:=HCb.o;have x0:=HXb.o.lt;have x1:=HXz.o.lt;omega)
 have hls:w.heap.size<=wb.heap.size:=HB.o.size;replace HB:=Hd (belowOnl HB.o hon (by simp only[List.mem_singleton,forall_eq];exact hlo) hls);replace HXz:=Hd (HXz.o.onl hon (by simp only[List.mem_singleton];(have o0:=HC1.o;have o1:=HC2.o;have o2:=HC3.o;have o3:=HC4.o;have o4:=HCb.o;have x0:=HXb.o.lt;have x1:=HXz.o.lt;omega)));replace HOn:=Hd (HOn.o.onlB hon HXb.o);have HC5:Hid (wb.heap.size<=w10.heap.size):=Hd (hon.size);clear hlo hls;replace HXb:=Hd hx;clear hx hon;go_wp2_with (first|(refine wpList_load_bx _ rfl rfl HXb.o (by kernel_rfl) ?_)|(refine wpList_store_bh (s:=({sc with ob:=⟨vb,n2,vd⟩})) (B:=(rmB B k x.id)) rfl _ _ rfl rfl rfl HXz.o rfl ?_;intro w4 hw9))
 have hg9:Bx w4 (w.heap.size+1) ({sc with ob:=⟨vb,n2,vd⟩}) ((rmB B k x.id)):=by rw[hw9.out];exact Bx.row HXz.o _ _
 have ho9:Onl [w.heap.size+1] w10 w4:=by rw[hw9.out];exact Onl.setRow (Onl.refl _ _) (.inl (by simp)) _
 have hlo:w.heap.size<=w.heap.size+1:=by(have o0:=HC1.o;have o1:=HC2.o;have o2:=HC3.o;have o3:=HC4.o;have o4:=HCb.o;have o5:=HC5.o;have x0:=HXb.o.lt;have x1:=HXz.o.lt;omega)
 have hb9:Below w.heap.size w w4:=belowOnl HB.o ho9 (by simp only[List.mem_singleton,forall_eq];exact hlo) HB.o.size;have HG9:=Hd hg9;have HPOST:Hid (CpA w ((rmB B k x.id)) (.returned (bv ({sc with ob:=⟨vb,n2,vd⟩}) ((rmB B k x.id)))) w4):=Hd ⟨_,rfl,(HOn.o.onlB ho9 HXz.o).mono (by(have o0:=HC1.o;have o1:=HC2.o;have o2:=HC3.o;have o3:=HC4.o;have o4:=HCb.o;have o5:=HC5.o;have x0:=HXb.o.lt;have x1:=HXz.o.lt;omega)) (by have h9:=ho9.size;(have o0:=HC1.o;have o1:=HC2.o;have o2:=HC3.o;have o3:=HC4.o;have o4:=HCb.o;have o5:=HC5.o;have x0:=HXb.o.lt;have x1:=HXz.o.lt;omega)),hb9⟩;clear hw9 hg9 ho9 hb9 hlo;go_wp2_with fail
 exact bodyPost_ret (v:=bv ({sc with ob:=⟨vb,n2,vd⟩}) ((rmB B k x.id))) (results_b0 Tryz.results30 _ _ HG9.o rfl) rfl HPOST.o
end Go.Proofs.YtpbepnpnpopmfaaGreat
namespace Go.Proofs.YtpbepnpnpopmfaaGreat
open Plain
set_option linter.unusedVariables false
set_option linter.unusedSimpArgs false

theorem rg29_8{P:Program}{B n:Nat}{w0:World}{L:List (Nat×Nat×Value)}{E F:World->Prop}{id:Nat}{Q:Exit->Act->World->Prop}{a:Act}{w:World}{A:Array Oper}{o0 o1 o2 o3 o4 o5 o6 o7 o8:Oper}(hm:P.follows .mixedOrders=true)(hA:A=[o0,o1,o2,o3,o4,o5,o6,o7,o8].toArray)(hB:regOk A [0,3] [2,4,5,6,8] (.fs [2,4,5] (.rs [0,3] (.fs [6] (.alt 1 (.altc 7 (.fs [8] .done) .stop) .stop))))=true)(c:RC B w0 n L E F w)
  (h:∀wk,Kept B w0 n L wk->E wk->F wk->wpQuiet P A (fun _=>True) (fun a0=>wpQuiet P A (fun w' =>∃s:KX B w0 n L E,w' =s.val) (fun a1=>wpQuiet P A (fun _=>True) (fun a2=>((∀K3:Act->World->Prop,(∀a3 w3,((∀K4:Act->World->Prop,(∀a4 w4,wpQuiet P A (fun _=>True) (fun a5=>Q .normal a5 w4) [o8] a4->K4 a4 w4)->wpList P A (fun e a4 w4=>e= .normal/\K4 a4 w4) [o7] a3 w3)/\True)->K3 a3 w3)->wpList P A (fun e a3 w3=>e= .normal/\(∃s:KX B w0 n L E,w3=s.val)/\K3 a3 w3) [o1] a2 wk)/\True)) [o6] a1) [o0,o3] a0) [o2,o4,o5] a):(Code.region id A true).wp P Q a w:=by
 subst hA;exact wp_reg _ _ _ hm hB c (fun wk k e f=>have g:=h wk k e f;Scr.of_fs _ _ rfl g fun _ g=>Scr.of_rs _ _ rfl g fun _ g=>Scr.of_fs _ _ rfl g fun _ g=>(Scr.of_alt rfl (g.1 _ fun _ _ g=>g) (fun _ _ g=>(Scr.of_altc rfl (g.1 _ fun _ _ g=>g) (fun _ _ g=>Scr.of_fs _ _ rfl g fun _ g=>g) trivial)) trivial))
set_option maxRecDepth 100000 in
set_option maxHeartbeats 2000000 in
theorem radd(a b:Int)(w:World):Calls Tryz.prog 51 #[.int .i64 a,.int .i64 b] w fun e w' =>e= .returned (.int .i64 (ad a b))/\w=w':=by
 go_enter Tryz.func51,Tryz.ntmps51
 go_wp2
 all_goals
  go_returns
  exact⟨ret_int (by unfold ad cl;omega),rfl⟩
theorem raddc(a b c:Int)(w:World)(hc:ad a b=c):Calls Tryz.prog 51 #[.int .i64 a,.int .i64 b] w fun e w' =>e= .returned (.int .i64 c)/\w=w':=by
 subst hc;exact radd a b w
def Plain.tkO(id p pw tg:Int):Ob:=⟨id, -1,p,ad 0 pw,ad 0 tg,0,0,0,0,false,true,false⟩
def Plain.tkB(B:Bd)(p:Nat)(pw tg:Int):Bd:=({B with ob:=B.ob++[tkO ((B.ob.length+1:Nat):Int) p pw tg]}:Bd).setL p 2 ((B.seat p).fld++[((B.ob.length+1:Nat):Int)])
def Plain.Seq(l:List Ob):Prop:=∀(i:Nat) (q:Ob),l[i]? =some q->q.id=((i+1:Nat):Int)
theorem rput2c(s:Bs)(B:Bd)(x:Ob)(p lo hi:Nat)(w:World)(h:BdO lo hi w s B)(hlo:lo<=w.heap.size)(hhi:hi<=w.heap.size)(hsm:B.Sm)(hp:p<2)(hox:x.ow=(p:Nat))(T:Bd)(hT:B.setL p 2 ((B.seat p).fld++[x.id])=T):Calls Tryz.prog 48 #[bv s B,.agg (oc x).toArray,.int .i64 2] w (PtA lo w T):=hT▸rput2 s B x p lo hi w h hlo hhi hsm hp hox
def TkL(w:World)(n:Nat)(v:Value)(wr:World):Prop:=∃j:Nat,1<=j/\j<=n+1/\v= .int .i64 j/\Below w.heap.size w wr
theorem rtoken(s:Bs)(B:Bd)(n p:Nat)(pw tg most:Int)(w:World)(h:BdR w s B)(hsm:B.Sm)(htl:B.Tl)(hq:Seq B.ob)(hbn:B.ob.length=n)(hn4:n<=400)(hmo:(n:Int)<most)(hp:p<2):Calls Tryz.prog 29 #[bv s B,.int .i64 p,.int .i64 pw,.int .i64 tg,.int .i64 most] w (BrA w (tkB B p pw tg) (.int .i64 ((B.ob.length+1:Nat):Int))):=by
 have HR:=Hd h;have HSM:=Hd hsm;have HTL:=Hd htl;have HQ:=Hd hq;have HPP:=Hd hp;have HBN:=Hd hbn;clear h hsm htl hq hp hbn;go_enter Tryz.func29,Tryz.ntmps29
 go_upto_region 1 with fail
 change Code.wp Tryz.prog _ _ _ ((w.alloc (.cells (bcells s B) 34)).alloc (.cells (bcells nilS zeroB) 34))
 obtain⟨wz,hwz⟩:∃W,W=((w.alloc (.cells (bcells s B) 34)).alloc (.cells (bcells nilS zeroB) 34)):=⟨_,rfl⟩
 rw[<-hwz];have b0:Below w.heap.size w (w.alloc (.cells (bcells s B) 34)):=by exact(Below.refl _ _).alloc (Nat.le_refl _) _
 have b1:Below (w.alloc (.cells (bcells s B) 34)).heap.size (w.alloc (.cells (bcells s B) 34)) wz:=by rw[hwz];exact(Below.refl _ _).alloc (Nat.le_refl _) _
 have HB:Hid (Below w.heap.size w wz):=Hd (below_via b0 b1);have HXb:Hid (Bx wz (w.heap.size) s B):=Hd ((Ro.new w (bcells s B) 34).below b1:Ro _ _ _ _);have HXz:Hid (Bx wz (w.heap.size+1) nilS zeroB):=Hd (by rw[show w.heap.size+1=(w.alloc (.cells (bcells s B) 34)).heap.size by simp];exact(by rw[hwz];exact(Ro.new (w.alloc (.cells (bcells s B) 34)) (bcells nilS zeroB) 34)));have HC1:Hid (w.heap.size+2<=wz.heap.size):=Hd (by rw[hwz];simp);clear hwz b0 b1;go_wp2_with (first|(refine wpList_load_bx _ rfl rfl HXb.o (by kernel_rfl) ?_))
 with_reducible refine(rcopy s B _ (HR.o.below HB.o) HSM.o HTL.o).mono ?_
 rintro e w1 ⟨sc,rfl,ho,hb⟩;have HC2:Hid (wz.heap.size<=w1.heap.size):=Hd (hb.size);replace HB:=Hd (below_via HB.o hb);replace HXb:=Hd (HXb.o.below hb);replace HXz:=Hd (HXz.o.below hb);have HOc:=Hd ho;clear ho hb;go_wp2_with (first|(refine wpList_store_bh (s:=sc) (B:=B) rfl _ _ rfl rfl rfl HXb.o rfl ?_))
 intro w2 hw0;have hon:Onl [w.heap.size] w1 w2:=by rw[hw0.out];exact Onl.setRow (Onl.refl _ _) (.inl (by simp)) _
 have hx:Bx w2 (w.heap.size) sc (B):=by rw[hw0.out];exact Bx.row HXb.o _ _
 clear hw0;have hlo:w.heap.size<=w.heap.size:=by(have o0:=HC1.o;have o1:=HC2.o;have x0:=HXb.o.lt;have x1:=HXz.o.lt;omega)
 have hls:w.heap.size<=w1.heap.size:=HB.o.size;replace HB:=Hd (belowOnl HB.o hon (by simp only[List.mem_singleton,forall_eq];exact hlo) hls);replace HXz:=Hd (HXz.o.onl hon (by simp only[List.mem_singleton];(have o0:=HC1.o;have o1:=HC2.o;have x0:=HXb.o.lt;have x1:=HXz.o.lt;omega)));replace HOc:=Hd (HOc.o.onlB hon HXb.o);have HC3:Hid (w1.heap.size<=w2.heap.size):=Hd (hon.size);clear hlo hls;replace HXb:=Hd hx;clear hx hon;go_wp2_with fail
 go_loopw [12] (fun v wr=>TkL w2 n v wr) (fun v _=>n+1-(intOf v).toNat)
 case atStart=>exact⟨1,by omega,by omega,rfl,Below.refl _ _⟩
 obtain⟨j,hj1,hj,rfl,hb⟩:=hrel
 have HBI:=Hd hb;have HXr:=Hd (HXb.o.below hb);have HOr:=Hd (HOc.o.below hb);clear hb
 by_cases hjn:j<=n
 ·go_wp2_with (refine wpList_load_bx _ rfl rfl HXr.o (by kernel_rfl) ?_)
  with_reducible refine(rindex sc B j _ HOr.o.rd).mono ?_
  rintro e wk ⟨⟨r,rfl,hr⟩,hb⟩
  have hr0:0<=r:=by
   rcases hr with⟨_,h1⟩|⟨i,q,rfl,_⟩
   ·obtain⟨q,hq⟩:∃q,B.ob[j-1]? =some q:=⟨_,List.getElem?_eq_getElem (by have:=HBN.o;omega)⟩
    have h2:=HQ.o _ q hq;exact absurd (by rw[h2];omega) (h1 (j-1) q hq)
   omega
  have t1:decide (r>=0)=true:=decide_eq_true hr0;have hw1:wrap64 ((j:Int)+1)=(j:Int)+1:=by unfold wrap64;omega
  replace HBI:=Hd (below_via HBI.o hb);clear hr hb HXr HOr;go_wp2_with fail
  go_roundw
  case rel=>exact⟨j+1,by omega,by omega,by go_num,HBI.o⟩
  case measure=>simp[intOf];omega
 have HJE:Hid (j=n+1):=Hd (by omega);clear hjn hj1 hj;go_wp2_with (refine wpList_load_bx _ rfl rfl HXr.o (by kernel_rfl) ?_)
 with_reducible refine(rindex sc B j _ HOr.o.rd).mono ?_
 rintro e wk ⟨⟨r,rfl,hr⟩,hb⟩
 obtain rfl:r= -1:=by
  rcases hr with⟨h1,_⟩|⟨i,q,rfl,h2,h3,_⟩
  ·exact h1
  have h4:=HQ.o i q h2;have h5:=(List.getElem?_eq_some_iff.1 h2).1
  have:=HBN.o
  rw[h3] at h4
  have:=HJE.o
  omega
 replace HBI:=Hd (below_via HBI.o hb);clear hr hb HXr HOr;have hb:=HBI.o;replace HB:=Hd (below_via HB.o hb);replace HXb:=Hd (HXb.o.below hb);replace HXz:=Hd (HXz.o.below hb);replace HOc:=Hd (HOc.o.below hb);have HCt1:Hid (w2.heap.size<=wk.heap.size):=Hd (hb.size)
 obtain⟨_,a,cap,hov,_⟩:=(HOc.o.ob.rw oc_len).form
 have hox:=HOc.o.ob;rw[hov,HBN.o] at hox
 rw[HBN.o] at hov
 have c0:wk.cell? ⟨w.heap.size,0,none⟩=some (.slice a n cap):=(HXb.o.cell 0).trans (congrArg some hov);have HRW:Hid (Rw oc 12 wk (.slice a n cap) B.ob):=Hd (hox.rw oc_len)
 have hsh:(a=none/\n=0/\cap=0)\/∃g,a=some ⟨g,0,none⟩/\n<=cap/\cap<=maxLen:=by
  rcases hox.1.2 with⟨h1,h2⟩|⟨g',cap',cur,h1,h2,h3,h4,h5,h6,h7⟩
  ·simp only[Value.slice.injEq] at h1
   exact .inl h1
  simp only[Value.slice.injEq] at h1
  obtain⟨h8,h9,rfl⟩:=h1
  rw[HBN.o] at h4
  exact .inr ⟨g',h8,h4,h5⟩
 have t2:decide ((n:Int)>=most)=false:=decide_eq_false (by omega);have t3:decide ((j:Int)>500)=false:=decide_eq_false (by have:=HJE.o;omega);have hj2:(j:Int)-1=(n:Int):=by have:=HJE.o;omega
 have hw2:wrap64 ((j:Int)-1)=(n:Int):=by rw[hj2];unfold wrap64;omega
 clear hb hov hox
 go_upto_region 7 with fail
 clear t2 t3;go_wp2_with fail
 with_reducible refine(radd 0 pw _).mono ?_
 rintro e v3 ⟨rfl,rfl⟩;go_wp2_with fail
 with_reducible refine(radd 0 tg _).mono ?_
 rintro e v3 ⟨rfl,rfl⟩
 obtain⟨x,hx0⟩:∃x,x=tkO j p pw tg:=⟨_,rfl⟩
 have HXl:Hid (w.heap.size<wk.heap.size):=Hd HXb.o.lt;go_wp2_with (refine wpList_store_o rfl (tkO j p pw tg) _ _ rfl rfl rfl (heap_alloc_new _ _) rfl ?_)
 intro v4 hw4;rw[<-hx0] at hw4
 have hbx:=boxed_o hw4.out
 obtain⟨nT,hn⟩:∃n,n=wk.heap.size:=⟨_,rfl⟩
 rw[<-hn] at hbx ⊢
 have hb:=hbx.1;rw[hn] at hb
 clear hw4;replace HB:=Hd (below_via HB.o hb);replace HXb:=Hd (HXb.o.below hb);replace HXz:=Hd (HXz.o.below hb);replace HOc:=Hd (HOc.o.below hb);have HT:Hid (Ro v4 nT (oc x).toArray 47):=Hd hbx.2;have HCt2:Hid (wk.heap.size<=nT/\nT<v4.heap.size):=Hd (⟨by omega,Ro.lt hbx.2⟩);have HX0:=Hd hx0;have hbl:w.heap.size<v4.heap.size:=HXb.o.lt;replace HRW:=Hd (HRW.o.below hb);have c1:v4.cell? ⟨w.heap.size,0,none⟩=some (.slice a n cap):=(below_via (Below.refl _ _) hb:Below wk.heap.size wk v4).cell (p:=⟨w.heap.size,0,none⟩) (HXl.o)|>.trans c0
 clear hbx hn hb hx0 c0
 go_upto_region 8 with fail
 rcases hsh with hsh|hsh
 ·obtain⟨rfl,rfl,rfl⟩:=hsh
  have hj3:(j:Int)-1=0:=by rw[hj2];rfl
  have hw3:wrap64 ((j:Int)-1)=0:=by rw[hw2];rfl
  have HE:Hid (Rw oc 12 v4 (.slice none 0 0) ([]:List Ob)):=Hd (Rw.nil _);clear hj2 hw2
  obtain⟨a1,ha1⟩:∃a,a=ad 0 pw:=⟨_,rfl⟩
  obtain⟨a2,ha2⟩:∃a,a=ad 0 tg:=⟨_,rfl⟩
  have hx2:x=⟨j, -1,p,a1,a2,0,0,0,0,false,true,false⟩:=by rw[HX0.o,ha1,ha2];rfl
  have HX2:=Hd hx2;have hnT:nT<v4.heap.size:=Ro.lt HT.o;have d0:v4.cell? ⟨nT,0,none⟩=some (.int .i64 j):=by rw[Ro.cell HT.o 0,hx2];rfl
  have d1:v4.cell? ⟨nT,1,none⟩=some (.int .i64 (-1)):=by rw[Ro.cell HT.o 1,hx2];rfl
  have d2:v4.cell? ⟨nT,2,none⟩=some (.int .i64 p):=by rw[Ro.cell HT.o 2,hx2];rfl
  have d3:v4.cell? ⟨nT,3,none⟩=some (.int .i64 a1):=by rw[Ro.cell HT.o 3,hx2];rfl
  have d4:v4.cell? ⟨nT,4,none⟩=some (.int .i64 a2):=by rw[Ro.cell HT.o 4,hx2];rfl
  have d5:v4.cell? ⟨nT,5,none⟩=some (.int .i64 0):=by rw[Ro.cell HT.o 5,hx2];rfl
  have d6:v4.cell? ⟨nT,6,none⟩=some (.int .i64 0):=by rw[Ro.cell HT.o 6,hx2];rfl
  have d7:v4.cell? ⟨nT,7,none⟩=some (.int .i64 0):=by rw[Ro.cell HT.o 7,hx2];rfl
  have d8:v4.cell? ⟨nT,8,none⟩=some (.int .i64 0):=by rw[Ro.cell HT.o 8,hx2];rfl
  have d9:v4.cell? ⟨nT,9,none⟩=some (.bool false):=by rw[Ro.cell HT.o 9,hx2];rfl
  have d10:v4.cell? ⟨nT,10,none⟩=some (.bool true):=by rw[Ro.cell HT.o 10,hx2];rfl
  have d11:v4.cell? ⟨nT,11,none⟩=some (.bool false):=by rw[Ro.cell HT.o 11,hx2];rfl
  clear hx2 ha1 ha2;refine rg29_8 (w0:=v4) (B:=v4.heap.size) (n:=v4.heap.size) (L:=[]) (by kernel_rfl) rfl (by kernel_rfl) (.t ⟨by go_grown,by go_size,(by simp[go_sem]<;>omega)⟩) (fun w91 K_w91 E_w91 F_w91=> ?_);have _ne:Nonempty (KX (v4.heap.size) v4 (v4.heap.size) [] (fun _=>True)):=⟨⟨_,K_w91,E_w91⟩⟩
  repeat (go_big_quiet_step (fail))
  refine wpQuiet_nil ?_;have ra:=rck _ne c1 hbl;have rd0:=rck _ne d0 hnT;have rd1:=rck _ne d1 hnT;have rd2:=rck _ne d2 hnT;have rd3:=rck _ne d3 hnT;have rd4:=rck _ne d4 hnT;have rd5:=rck _ne d5 hnT;have rd6:=rck _ne d6 hnT;have rd7:=rck _ne d7 hnT;have rd8:=rck _ne d8 hnT;have rd9:=rck _ne d9 hnT;have rd10:=rck _ne d10 hnT;have rd11:=rck _ne d11 hnT
  repeat (go_big_quiet_step (fail))
  refine wpQuiet_nil ?_
  repeat (go_big_quiet_step (fail))
  refine wpQuiet_nil ?_;have KH_w91:=Hd K_w91;have hw_w91:=K_w91.below;have hz_w91:=K_w91.size;clear K_w91;clear E_w91 F_w91
  refine⟨fun K hK0=> ?_,trivial⟩
  have hK:=Hd hK0;clear hK0;go_wp2_with fail
  obtain⟨wa,hwa⟩:∃W,W=w91.alloc (.cells #[.int .i64 j,.int .i64 (-1),.int .i64 p,.int .i64 a1,.int .i64 a2,.int .i64 0,.int .i64 0,.int .i64 0,.int .i64 0,.bool false,.bool true,.bool false] 47):=⟨_,rfl⟩
  rw[<-hwa];have HAo:Hid (Ow oc 12 47 wa v4.heap.size (.slice (some ⟨w91.heap.size,0,none⟩) 1 1) [x]):=Hd (by rw[hwa];exact Ow.lit w91 47 [x] #[.int .i64 j,.int .i64 (-1),.int .i64 p,.int .i64 a1,.int .i64 a2,.int .i64 0,.int .i64 0,.int .i64 0,.int .i64 0,.bool false,.bool true,.bool false] (by rw[HX2.o];rfl) oc_len v4.heap.size KH_w91.o.below.size (by simp[maxLen]));have HBA:Hid (Below v4.heap.size v4 wa):=Hd (by rw[hwa];exact KH_w91.o.below.alloc KH_w91.o.below.size _);clear hwa
  first|refine⟨rfl,?u,hK.o _ _ ?_⟩|refine⟨?u,hK.o _ _ ?_⟩
  case u=>exact⟨⟨_,(⟨HBA.o,HBA.o.size,by simp⟩:Kept v4.heap.size v4 v4.heap.size [] wa),trivial⟩,rfl⟩
  clear hK K
  refine⟨fun K hK0=> ?_,trivial⟩
  have hK:=Hd hK0;clear hK0;go_wp2_with (at_builtin;refine wpList_append_ow (f:=oc) (sz:=12) rfl _ _ 23 rfl v4.heap.size 47 _ 80 Tryz.underlying23 infoO rfl (by decide) _ [x] rfl HAo.o oc_ok _ [] rfl (HE.o.below HBA.o) ?d1 ?d2 HBA.o.size ?_)
  case d1=>simp[maxLen]
  case d2=>simp
  intro v1 wb hown hgrow hwh
  obtain⟨vb,vd,rfl⟩:=hown.form
  have HA1:Hid (Ow oc 12 47 wb v4.heap.size (.slice vb 1 vd) [x]):=Hd hown;have HBB:Hid (Below v4.heap.size v4 wb):=Hd (HBA.o.grown hgrow HBA.o.size (fun q hq=>(HAo.o.typ q hq).1));clear hown hgrow hwh HAo HBA HE
  first|refine⟨rfl,hK.o _ _ ?_⟩|refine hK.o _ _ ?_
  clear hK K
  repeat (go_big_quiet_step (fail))
  refine wpQuiet_nil ?_;clear ra rd0 rd1 rd2 rd3 rd4 rd5 rd6 rd7 rd8 rd9 rd10 rd11;clear _ne;clear hnT d0 d1 d2 d3 d4 d5 d6 d7 d8 d9 d10 d11;have hb:=HBB.o;replace HRW:=Hd (HRW.o.below hb);replace HT:=Hd (Ro.below HT.o hb);replace c1:=(hb.cell (p:=⟨w.heap.size,0,none⟩) hbl).trans c1;replace HB:=Hd (below_via HB.o hb);replace HXb:=Hd (HXb.o.below hb);replace HXz:=Hd (HXz.o.below hb);replace HOc:=Hd (HOc.o.below hb);have HCt3:Hid (v4.heap.size<=wb.heap.size):=Hd (hb.size);clear hb hbl HBB;have HTK:Hid (Rw oc 12 wb (.slice none 0 0) B.ob):=HRW;have HBL:Hid (B.ob.length<=400):=Hd (by have:=HBN.o;omega)
  go_upto_region 9 with fail
  go_wp2_with (at_builtin;refine wpList_append_ow (f:=oc) (sz:=12) rfl _ _ 23 rfl wb.heap.size 47 _ 80 Tryz.underlying23 infoO rfl (by decide) _ [] rfl (Ow.nil _ _ _) oc_ok _ B.ob rfl HTK.o ?e1 ?e2 (Nat.le_refl _) ?_)
  case e1=>have:=HBL.o;simp[maxLen];omega
  case e2=>have:=HBL.o;simp;omega
  intro v2 wd hown hgrow hwh;have HA2:Hid (Ow oc 12 47 wd wb.heap.size v2 B.ob):=Hd hown;have HBD:Hid (Below wb.heap.size wb wd):=Hd ((Below.refl _ _).grown hgrow (Nat.le_refl _) (by simp[Value.ownBlock]));have HR1:Hid (Rw oc 12 wd (.slice vb 1 vd) [x]):=Hd ((HA1.o.rw oc_len).below HBD.o);clear hown hgrow hwh HRW HTK HA1;go_wp2_with (at_builtin;refine wpList_append_ow (f:=oc) (sz:=12) rfl _ _ 23 rfl wb.heap.size 47 _ 80 Tryz.underlying23 infoO rfl (by decide) _ B.ob rfl HA2.o oc_ok _ [x] rfl HR1.o ?e3 ?e4 HBD.o.size ?_)
  case e3=>have:=HBL.o;simp[maxLen];omega
  case e4=>have:=HBL.o;simp;omega
  intro v3 we hown hgrow hwh
  obtain⟨vq,vr,rfl⟩:=hown.form
  obtain⟨n4,hn4⟩:∃n,n=(B.ob++[x]).length:=⟨_,rfl⟩
  rw[<-hn4] at hown ⊢
  have HOW:=Hd hown;have HBE:Hid (Below wb.heap.size wb we):=Hd (HBD.o.grown hgrow HBD.o.size (fun q hq=>(HA2.o.typ q hq).1));clear hown hgrow hwh hn4 HA2 HR1 HBD;have HOn:=Hd (HOc.o.newObj HBE.o (by(have o0:=HC1.o;have o1:=HC2.o;have o2:=HC3.o;have o3:=HCt1.o;have o4:=HCt2.o;have o5:=HCt3.o;have x0:=HXb.o.lt;have x1:=HXz.o.lt;omega)) (by have h1:=HBE.o.size;(have o0:=HC1.o;have o1:=HC2.o;have o2:=HC3.o;have o3:=HCt1.o;have o4:=HCt2.o;have o5:=HCt3.o;have x0:=HXb.o.lt;have x1:=HXz.o.lt;omega)) ⟨vq,n4,vr⟩ (B.ob++[x]) HOW.o);have hb:=HBE.o;replace HT:=Hd (Ro.below HT.o hb);clear HOW;replace HB:=Hd (below_via HB.o hb);replace HXb:=Hd (HXb.o.below hb);replace HXz:=Hd (HXz.o.below hb);have HCt4:Hid (wb.heap.size<=we.heap.size):=Hd (hb.size);clear hb HBE HOc c1;replace HOn:Hid (BdO (wz.heap.size) we.heap.size we ({sc with ob:=⟨vq,n4,vr⟩}) ({B with ob:=B.ob++[x]})):=HOn;have c0:we.cell? ⟨w.heap.size,0,none⟩=some (sc.ob.v):=HXb.o.cell 0;have f0:we.frozen? ⟨w.heap.size,0,none⟩=false:=HXb.o.free 0
  go_upto_region 10 with fail
  obtain⟨wt1,hw⟩:∃X,X=we.setCell ⟨w.heap.size,0,none⟩ (.slice vq n4 vr):=⟨_,rfl⟩
  rw[<-hw];have hon:Onl [w.heap.size] we wt1:=by rw[hw];exact Onl.setCell (Onl.refl _ _) (.inl (by simp)) _
  have hx:Bx wt1 (w.heap.size) ({sc with ob:=⟨vq,n4,vr⟩}) (({B with ob:=B.ob++[x]})):=by rw[hw];exact HXb.o.put 0 _ rfl
  clear hw c0 f0;have hlo:w.heap.size<=w.heap.size:=by(have o0:=HC1.o;have o1:=HC2.o;have o2:=HC3.o;have o3:=HCt1.o;have o4:=HCt2.o;have o5:=HCt3.o;have o6:=HCt4.o;have x0:=HXb.o.lt;have x1:=HXz.o.lt;omega)
  have hls:w.heap.size<=we.heap.size:=HB.o.size;replace HB:=Hd (belowOnl HB.o hon (by simp only[List.mem_singleton,forall_eq];exact hlo) hls);replace HT:=Hd (HT.o.onl hon (by simp only[List.mem_singleton];(have o0:=HC1.o;have o1:=HC2.o;have o2:=HC3.o;have o3:=HCt1.o;have o4:=HCt2.o;have o5:=HCt3.o;have o6:=HCt4.o;have x0:=HXb.o.lt;have x1:=HXz.o.lt;omega)));replace HXz:=Hd (HXz.o.onl hon (by simp only[List.mem_singleton];(have o0:=HC1.o;have o1:=HC2.o;have o2:=HC3.o;have o3:=HCt1.o;have o4:=HCt2.o;have o5:=HCt3.o;have o6:=HCt4.o;have x0:=HXb.o.lt;have x1:=HXz.o.lt;omega)));replace HOn:=Hd (HOn.o.onlB hon HXb.o);have HCt5:Hid (we.heap.size<=wt1.heap.size):=Hd (hon.size);clear hlo hls;replace HXb:=Hd hx;clear hx hon;go_wp2_with (first|(refine wpList_load_bx _ rfl rfl HXb.o (by kernel_rfl) ?_)|(refine wpList_load_o x _ rfl rfl HT.o (by kernel_rfl) ?_))
  have HSX:Hid (({B with ob:=B.ob++[x]}).Sm):=Hd ⟨HSM.o.zs,by show(B.ob++[x]).length<=1000;rw[List.length_append];have:=HBL.o;simp;omega,HSM.o.st,HSM.o.qu,HSM.o.att,HSM.o.bl⟩
  obtain⟨TK,hTK⟩:∃T,T=tkB B p pw tg:=⟨_,rfl⟩
  have HXW:Hid (x.ow=(p:Nat)):=Hd (by rw[HX0.o];rfl)
  have HTE:Hid ((({B with ob:=B.ob++[x]}):Bd).setL p 2 (((({B with ob:=B.ob++[x]}):Bd).seat p).fld++[x.id])=TK):=Hd (by
   rw[hTK,HX0.o,HJE.o,<-HBN.o];unfold tkB
   have:p=0\/p=1:=by have:=HPP.o;omega
   rcases this with rfl|rfl<;>rfl)
  have HTQ:=Hd hTK;clear hTK;with_reducible refine(rput2c ({sc with ob:=⟨vq,n4,vr⟩}) ({B with ob:=B.ob++[x]}) x p (wz.heap.size) we.heap.size _ HOn.o (by(have o0:=HC1.o;have o1:=HC2.o;have o2:=HC3.o;have o3:=HCt1.o;have o4:=HCt2.o;have o5:=HCt3.o;have o6:=HCt4.o;have o7:=HCt5.o;have x0:=HXb.o.lt;have x1:=HXz.o.lt;omega)) (by(have o0:=HC1.o;have o1:=HC2.o;have o2:=HC3.o;have o3:=HCt1.o;have o4:=HCt2.o;have o5:=HCt3.o;have o6:=HCt4.o;have o7:=HCt5.o;have x0:=HXb.o.lt;have x1:=HXz.o.lt;omega)) HSX.o HPP.o HXW.o TK HTE.o).mono ?_
  rintro e wt2 ⟨sp,rfl,ho,hb⟩;have HCt6:Hid (wt1.heap.size<=wt2.heap.size):=Hd (hb.size);replace HB:=Hd (below_via HB.o hb);replace HXb:=Hd (HXb.o.below hb);replace HXz:=Hd (HXz.o.below hb);replace HOn:=Hd (HOn.o.below hb);have HOp:=Hd ho;clear ho hb HOn HSX HT;have HRT:Hid (((B.ob.length+1:Nat):Int)=(j:Int)):=Hd (by rw[HBN.o,HJE.o]);clear HX0 HXW HTE;go_wp2_with (first|(refine wpList_store_bh (s:=sp) (B:=TK) rfl _ _ rfl rfl rfl HXz.o rfl ?_;intro wt3 hw9))
  have hg9:Bx wt3 (w.heap.size+1) sp (TK):=by rw[hw9.out];exact Bx.row HXz.o _ _
  have ho9:Onl [w.heap.size+1] wt2 wt3:=by rw[hw9.out];exact Onl.setRow (Onl.refl _ _) (.inl (by simp)) _
  have hlo:w.heap.size<=w.heap.size+1:=by(have o0:=HC1.o;have o1:=HC2.o;have o2:=HC3.o;have o3:=HCt1.o;have o4:=HCt2.o;have o5:=HCt3.o;have o6:=HCt4.o;have o7:=HCt5.o;have o8:=HCt6.o;have x0:=HXb.o.lt;have x1:=HXz.o.lt;omega)
  have hb9:Below w.heap.size w wt3:=belowOnl HB.o ho9 (by simp only[List.mem_singleton,forall_eq];exact hlo) HB.o.size;have HG9:=Hd hg9;have HPOST:Hid (BrA w (tkB B p pw tg) (.int .i64 ((B.ob.length+1:Nat):Int)) (.returned (.tuple #[bv sp (TK),.int .i64 (j:Nat)])) wt3):=Hd (by rw[<-HTQ.o,HRT.o];exact⟨_,rfl,(HOp.o.onlB ho9 HXz.o).mono (by(have o0:=HC1.o;have o1:=HC2.o;have o2:=HC3.o;have o3:=HCt1.o;have o4:=HCt2.o;have o5:=HCt3.o;have o6:=HCt4.o;have o7:=HCt5.o;have o8:=HCt6.o;have x0:=HXb.o.lt;have x1:=HXz.o.lt;omega)) (by have h9:=ho9.size;(have o0:=HC1.o;have o1:=HC2.o;have o2:=HC3.o;have o3:=HCt1.o;have o4:=HCt2.o;have o5:=HCt3.o;have o6:=HCt4.o;have o7:=HCt5.o;have o8:=HCt6.o;have x0:=HXb.o.lt;have x1:=HXz.o.lt;omega)),hb9⟩);clear hw9 hg9 ho9 hb9 hlo;go_wp2_with fail
  exact bodyPost_ret (v:= .tuple #[bv sp (TK),.int .i64 (j:Nat)]) (results_b1 Tryz.results29 _ _ HG9.o rfl rfl) rfl HPOST.o
 obtain⟨g,rfl,hnc,hcm⟩:=hsh
 unfold maxLen at hcm
 obtain⟨o',hA⟩:∃o':Nat,(if cap=n then (some (⟨g,0,none⟩:Addr)) else some ⟨g,n*12,none⟩)=some ⟨g,o',none⟩:=by
  by_cases h:cap=n
  ·exact⟨0,by rw[if_pos h]⟩
  exact⟨n*12,by rw[if_neg h]⟩
 have HE:Hid (Rw oc 12 v4 (.slice (some ⟨g,o',none⟩) 0 (cap-n)) ([]:List Ob)):=Hd (.inl ⟨rfl,.inr ⟨_,_,rfl⟩⟩);have i1:(0:Int)<=(n:Int):=by omega
 have i2:(n:Int)<=(cap:Int):=by omega
 obtain⟨a1,ha1⟩:∃a,a=ad 0 pw:=⟨_,rfl⟩
 obtain⟨a2,ha2⟩:∃a,a=ad 0 tg:=⟨_,rfl⟩
 have hx2:x=⟨j, -1,p,a1,a2,0,0,0,0,false,true,false⟩:=by rw[HX0.o,ha1,ha2];rfl
 have HX2:=Hd hx2;have hnT:nT<v4.heap.size:=Ro.lt HT.o;have d0:v4.cell? ⟨nT,0,none⟩=some (.int .i64 j):=by rw[Ro.cell HT.o 0,hx2];rfl
 have d1:v4.cell? ⟨nT,1,none⟩=some (.int .i64 (-1)):=by rw[Ro.cell HT.o 1,hx2];rfl
 have d2:v4.cell? ⟨nT,2,none⟩=some (.int .i64 p):=by rw[Ro.cell HT.o 2,hx2];rfl
 have d3:v4.cell? ⟨nT,3,none⟩=some (.int .i64 a1):=by rw[Ro.cell HT.o 3,hx2];rfl
 have d4:v4.cell? ⟨nT,4,none⟩=some (.int .i64 a2):=by rw[Ro.cell HT.o 4,hx2];rfl
 have d5:v4.cell? ⟨nT,5,none⟩=some (.int .i64 0):=by rw[Ro.cell HT.o 5,hx2];rfl
 have d6:v4.cell? ⟨nT,6,none⟩=some (.int .i64 0):=by rw[Ro.cell HT.o 6,hx2];rfl
 have d7:v4.cell? ⟨nT,7,none⟩=some (.int .i64 0):=by rw[Ro.cell HT.o 7,hx2];rfl
 have d8:v4.cell? ⟨nT,8,none⟩=some (.int .i64 0):=by rw[Ro.cell HT.o 8,hx2];rfl
 have d9:v4.cell? ⟨nT,9,none⟩=some (.bool false):=by rw[Ro.cell HT.o 9,hx2];rfl
 have d10:v4.cell? ⟨nT,10,none⟩=some (.bool true):=by rw[Ro.cell HT.o 10,hx2];rfl
 have d11:v4.cell? ⟨nT,11,none⟩=some (.bool false):=by rw[Ro.cell HT.o 11,hx2];rfl
 clear hx2 ha1 ha2;refine rg29_8 (w0:=v4) (B:=v4.heap.size) (n:=v4.heap.size) (L:=[]) (by kernel_rfl) rfl (by kernel_rfl) (.t ⟨by go_grown,by go_size,(by simp[go_sem]<;>omega)⟩) (fun w91 K_w91 E_w91 F_w91=> ?_);have _ne:Nonempty (KX (v4.heap.size) v4 (v4.heap.size) [] (fun _=>True)):=⟨⟨_,K_w91,E_w91⟩⟩
 repeat (go_big_quiet_step (fail))
 refine wpQuiet_nil ?_;have ra:=rck _ne c1 hbl;have rd0:=rck _ne d0 hnT;have rd1:=rck _ne d1 hnT;have rd2:=rck _ne d2 hnT;have rd3:=rck _ne d3 hnT;have rd4:=rck _ne d4 hnT;have rd5:=rck _ne d5 hnT;have rd6:=rck _ne d6 hnT;have rd7:=rck _ne d7 hnT;have rd8:=rck _ne d8 hnT;have rd9:=rck _ne d9 hnT;have rd10:=rck _ne d10 hnT;have rd11:=rck _ne d11 hnT
 repeat (go_big_quiet_step (fail))
 refine wpQuiet_nil ?_
 repeat (go_big_quiet_step (fail))
 refine wpQuiet_nil ?_;have KH_w91:=Hd K_w91;have hw_w91:=K_w91.below;have hz_w91:=K_w91.size;clear K_w91;clear E_w91 F_w91
 refine⟨fun K hK0=> ?_,trivial⟩
 have hK:=Hd hK0;clear hK0;go_wp2_with fail
 obtain⟨wa,hwa⟩:∃W,W=w91.alloc (.cells #[.int .i64 j,.int .i64 (-1),.int .i64 p,.int .i64 a1,.int .i64 a2,.int .i64 0,.int .i64 0,.int .i64 0,.int .i64 0,.bool false,.bool true,.bool false] 47):=⟨_,rfl⟩
 rw[<-hwa];have HAo:Hid (Ow oc 12 47 wa v4.heap.size (.slice (some ⟨w91.heap.size,0,none⟩) 1 1) [x]):=Hd (by rw[hwa];exact Ow.lit w91 47 [x] #[.int .i64 j,.int .i64 (-1),.int .i64 p,.int .i64 a1,.int .i64 a2,.int .i64 0,.int .i64 0,.int .i64 0,.int .i64 0,.bool false,.bool true,.bool false] (by rw[HX2.o];rfl) oc_len v4.heap.size KH_w91.o.below.size (by simp[maxLen]));have HBA:Hid (Below v4.heap.size v4 wa):=Hd (by rw[hwa];exact KH_w91.o.below.alloc KH_w91.o.below.size _);clear hwa
 first|refine⟨rfl,?u,hK.o _ _ ?_⟩|refine⟨?u,hK.o _ _ ?_⟩
 case u=>exact⟨⟨_,(⟨HBA.o,HBA.o.size,by simp⟩:Kept v4.heap.size v4 v4.heap.size [] wa),trivial⟩,rfl⟩
 clear hK K
 refine⟨fun K hK0=> ?_,trivial⟩
 have hK:=Hd hK0;clear hK0;go_wp2_with (at_builtin;refine wpList_append_ow (f:=oc) (sz:=12) rfl _ _ 23 rfl v4.heap.size 47 _ 80 Tryz.underlying23 infoO rfl (by decide) _ [x] rfl HAo.o oc_ok _ [] rfl (HE.o.below HBA.o) ?d1 ?d2 HBA.o.size ?_)
 case d1=>simp[maxLen]
 case d2=>simp
 intro v1 wb hown hgrow hwh
 obtain⟨vb,vd,rfl⟩:=hown.form
 have HA1:Hid (Ow oc 12 47 wb v4.heap.size (.slice vb 1 vd) [x]):=Hd hown;have HBB:Hid (Below v4.heap.size v4 wb):=Hd (HBA.o.grown hgrow HBA.o.size (fun q hq=>(HAo.o.typ q hq).1));clear hown hgrow hwh HAo HBA HE
 first|refine⟨rfl,hK.o _ _ ?_⟩|refine hK.o _ _ ?_
 clear hK K
 repeat (go_big_quiet_step (fail))
 refine wpQuiet_nil ?_;clear ra rd0 rd1 rd2 rd3 rd4 rd5 rd6 rd7 rd8 rd9 rd10 rd11;clear _ne;clear hnT d0 d1 d2 d3 d4 d5 d6 d7 d8 d9 d10 d11;have hb:=HBB.o;replace HRW:=Hd (HRW.o.below hb);replace HT:=Hd (Ro.below HT.o hb);replace c1:=(hb.cell (p:=⟨w.heap.size,0,none⟩) hbl).trans c1;replace HB:=Hd (below_via HB.o hb);replace HXb:=Hd (HXb.o.below hb);replace HXz:=Hd (HXz.o.below hb);replace HOc:=Hd (HOc.o.below hb);have HCt3:Hid (v4.heap.size<=wb.heap.size):=Hd (hb.size);clear hb hbl HBB;have HTK:Hid (Rw oc 12 wb (.slice (some ⟨g,0,none⟩) n cap) B.ob):=HRW;have HBL:Hid (B.ob.length<=400):=Hd (by have:=HBN.o;omega)
 go_upto_region 9 with fail
 go_wp2_with (at_builtin;refine wpList_append_ow (f:=oc) (sz:=12) rfl _ _ 23 rfl wb.heap.size 47 _ 80 Tryz.underlying23 infoO rfl (by decide) _ [] rfl (Ow.nil _ _ _) oc_ok _ B.ob rfl HTK.o ?e1 ?e2 (Nat.le_refl _) ?_)
 case e1=>have:=HBL.o;simp[maxLen];omega
 case e2=>have:=HBL.o;simp;omega
 intro v2 wd hown hgrow hwh;have HA2:Hid (Ow oc 12 47 wd wb.heap.size v2 B.ob):=Hd hown;have HBD:Hid (Below wb.heap.size wb wd):=Hd ((Below.refl _ _).grown hgrow (Nat.le_refl _) (by simp[Value.ownBlock]));have HR1:Hid (Rw oc 12 wd (.slice vb 1 vd) [x]):=Hd ((HA1.o.rw oc_len).below HBD.o);clear hown hgrow hwh HRW HTK HA1;go_wp2_with (at_builtin;refine wpList_append_ow (f:=oc) (sz:=12) rfl _ _ 23 rfl wb.heap.size 47 _ 80 Tryz.underlying23 infoO rfl (by decide) _ B.ob rfl HA2.o oc_ok _ [x] rfl HR1.o ?e3 ?e4 HBD.o.size ?_)
 case e3=>have:=HBL.o;simp[maxLen];omega
 case e4=>have:=HBL.o;simp;omega
 intro v3 we hown hgrow hwh
 obtain⟨vq,vr,rfl⟩:=hown.form
 obtain⟨n4,hn4⟩:∃n,n=(B.ob++[x]).length:=⟨_,rfl⟩
 rw[<-hn4] at hown ⊢
 have HOW:=Hd hown;have HBE:Hid (Below wb.heap.size wb we):=Hd (HBD.o.grown hgrow HBD.o.size (fun q hq=>(HA2.o.typ q hq).1));clear hown hgrow hwh hn4 HA2 HR1 HBD;have HOn:=Hd (HOc.o.newObj HBE.o (by(have o0:=HC1.o;have o1:=HC2.o;have o2:=HC3.o;have o3:=HCt1.o;have o4:=HCt2.o;have o5:=HCt3.o;have x0:=HXb.o.lt;have x1:=HXz.o.lt;omega)) (by have h1:=HBE.o.size;(have o0:=HC1.o;have o1:=HC2.o;have o2:=HC3.o;have o3:=HCt1.o;have o4:=HCt2.o;have o5:=HCt3.o;have x0:=HXb.o.lt;have x1:=HXz.o.lt;omega)) ⟨vq,n4,vr⟩ (B.ob++[x]) HOW.o);have hb:=HBE.o;replace HT:=Hd (Ro.below HT.o hb);clear HOW;replace HB:=Hd (below_via HB.o hb);replace HXb:=Hd (HXb.o.below hb);replace HXz:=Hd (HXz.o.below hb);have HCt4:Hid (wb.heap.size<=we.heap.size):=Hd (hb.size);clear hb HBE HOc c1;replace HOn:Hid (BdO (wz.heap.size) we.heap.size we ({sc with ob:=⟨vq,n4,vr⟩}) ({B with ob:=B.ob++[x]})):=HOn;have c0:we.cell? ⟨w.heap.size,0,none⟩=some (sc.ob.v):=HXb.o.cell 0;have f0:we.frozen? ⟨w.heap.size,0,none⟩=false:=HXb.o.free 0
 go_upto_region 10 with fail
 obtain⟨wt1,hw⟩:∃X,X=we.setCell ⟨w.heap.size,0,none⟩ (.slice vq n4 vr):=⟨_,rfl⟩
 rw[<-hw];have hon:Onl [w.heap.size] we wt1:=by rw[hw];exact Onl.setCell (Onl.refl _ _) (.inl (by simp)) _
 have hx:Bx wt1 (w.heap.size) ({sc with ob:=⟨vq,n4,vr⟩}) (({B with ob:=B.ob++[x]})):=by rw[hw];exact HXb.o.put 0 _ rfl
 clear hw c0 f0;have hlo:w.heap.size<=w.heap.size:=by(have o0:=HC1.o;have o1:=HC2.o;have o2:=HC3.o;have o3:=HCt1.o;have o4:=HCt2.o;have o5:=HCt3.o;have o6:=HCt4.o;have x0:=HXb.o.lt;have x1:=HXz.o.lt;omega)
 have hls:w.heap.size<=we.heap.size:=HB.o.size;replace HB:=Hd (belowOnl HB.o hon (by simp only[List.mem_singleton,forall_eq];exact hlo) hls);replace HT:=Hd (HT.o.onl hon (by simp only[List.mem_singleton];(have o0:=HC1.o;have o1:=HC2.o;have o2:=HC3.o;have o3:=HCt1.o;have o4:=HCt2.o;have o5:=HCt3.o;have o6:=HCt4.o;have x0:=HXb.o.lt;have x1:=HXz.o.lt;omega)));replace HXz:=Hd (HXz.o.onl hon (by simp only[List.mem_singleton];(have o0:=HC1.o;have o1:=HC2.o;have o2:=HC3.o;have o3:=HCt1.o;have o4:=HCt2.o;have o5:=HCt3.o;have o6:=HCt4.o;have x0:=HXb.o.lt;have x1:=HXz.o.lt;omega)));replace HOn:=Hd (HOn.o.onlB hon HXb.o);have HCt5:Hid (we.heap.size<=wt1.heap.size):=Hd (hon.size);clear hlo hls;replace HXb:=Hd hx;clear hx hon;go_wp2_with (first|(refine wpList_load_bx _ rfl rfl HXb.o (by kernel_rfl) ?_)|(refine wpList_load_o x _ rfl rfl HT.o (by kernel_rfl) ?_))
 have HSX:Hid (({B with ob:=B.ob++[x]}).Sm):=Hd ⟨HSM.o.zs,by show(B.ob++[x]).length<=1000;rw[List.length_append];have:=HBL.o;simp;omega,HSM.o.st,HSM.o.qu,HSM.o.att,HSM.o.bl⟩
 obtain⟨TK,hTK⟩:∃T,T=tkB B p pw tg:=⟨_,rfl⟩
 have HXW:Hid (x.ow=(p:Nat)):=Hd (by rw[HX0.o];rfl)
 have HTE:Hid ((({B with ob:=B.ob++[x]}):Bd).setL p 2 (((({B with ob:=B.ob++[x]}):Bd).seat p).fld++[x.id])=TK):=Hd (by
  rw[hTK,HX0.o,HJE.o,<-HBN.o];unfold tkB
  have:p=0\/p=1:=by have:=HPP.o;omega
  rcases this with rfl|rfl<;>rfl)
 have HTQ:=Hd hTK;clear hTK;with_reducible refine(rput2c ({sc with ob:=⟨vq,n4,vr⟩}) ({B with ob:=B.ob++[x]}) x p (wz.heap.size) we.heap.size _ HOn.o (by(have o0:=HC1.o;have o1:=HC2.o;have o2:=HC3.o;have o3:=HCt1.o;have o4:=HCt2.o;have o5:=HCt3.o;have o6:=HCt4.o;have o7:=HCt5.o;have x0:=HXb.o.lt;have x1:=HXz.o.lt;omega)) (by(have o0:=HC1.o;have o1:=HC2.o;have o2:=HC3.o;have o3:=HCt1.o;have o4:=HCt2.o;have o5:=HCt3.o;have o6:=HCt4.o;have o7:=HCt5.o;have x0:=HXb.o.lt;have x1:=HXz.o.lt;omega)) HSX.o HPP.o HXW.o TK HTE.o).mono ?_
 rintro e wt2 ⟨sp,rfl,ho,hb⟩;have HCt6:Hid (wt1.heap.size<=wt2.heap.size):=Hd (hb.size);replace HB:=Hd (below_via HB.o hb);replace HXb:=Hd (HXb.o.below hb);replace HXz:=Hd (HXz.o.below hb);replace HOn:=Hd (HOn.o.below hb);have HOp:=Hd ho;clear ho hb HOn HSX HT;have HRT:Hid (((B.ob.length+1:Nat):Int)=(j:Int)):=Hd (by rw[HBN.o,HJE.o]);clear HX0 HXW HTE;go_wp2_with (first|(refine wpList_store_bh (s:=sp) (B:=TK) rfl _ _ rfl rfl rfl HXz.o rfl ?_;intro wt3 hw9))
 have hg9:Bx wt3 (w.heap.size+1) sp (TK):=by rw[hw9.out];exact Bx.row HXz.o _ _
 have ho9:Onl [w.heap.size+1] wt2 wt3:=by rw[hw9.out];exact Onl.setRow (Onl.refl _ _) (.inl (by simp)) _
 have hlo:w.heap.size<=w.heap.size+1:=by(have o0:=HC1.o;have o1:=HC2.o;have o2:=HC3.o;have o3:=HCt1.o;have o4:=HCt2.o;have o5:=HCt3.o;have o6:=HCt4.o;have o7:=HCt5.o;have o8:=HCt6.o;have x0:=HXb.o.lt;have x1:=HXz.o.lt;omega)
 have hb9:Below w.heap.size w wt3:=belowOnl HB.o ho9 (by simp only[List.mem_singleton,forall_eq];exact hlo) HB.o.size;have HG9:=Hd hg9;have HPOST:Hid (BrA w (tkB B p pw tg) (.int .i64 ((B.ob.length+1:Nat):Int)) (.returned (.tuple #[bv sp (TK),.int .i64 (j:Nat)])) wt3):=Hd (by rw[<-HTQ.o,HRT.o];exact⟨_,rfl,(HOp.o.onlB ho9 HXz.o).mono (by(have o0:=HC1.o;have o1:=HC2.o;have o2:=HC3.o;have o3:=HCt1.o;have o4:=HCt2.o;have o5:=HCt3.o;have o6:=HCt4.o;have o7:=HCt5.o;have o8:=HCt6.o;have x0:=HXb.o.lt;have x1:=HXz.o.lt;omega)) (by have h9:=ho9.size;(have o0:=HC1.o;have o1:=HC2.o;have o2:=HC3.o;have o3:=HCt1.o;have o4:=HCt2.o;have o5:=HCt3.o;have o6:=HCt4.o;have o7:=HCt5.o;have o8:=HCt6.o;have x0:=HXb.o.lt;have x1:=HXz.o.lt;omega)),hb9⟩);clear hw9 hg9 ho9 hb9 hlo;go_wp2_with fail
 exact bodyPost_ret (v:= .tuple #[bv sp (TK),.int .i64 (j:Nat)]) (results_b1 Tryz.results29 _ _ HG9.o rfl rfl) rfl HPOST.o
end Go.Proofs.YtpbepnpnpopmfaaGreat
