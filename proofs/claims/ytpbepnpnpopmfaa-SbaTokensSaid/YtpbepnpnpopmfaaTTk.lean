/- An object is removed, by the reference. A token, by the reference, where all ids below the next one are there. -/
import Derived.Test.YtpbepnpnpopmfaaTMv
import Derived.Test.YtpbepnpnpopmfaaUVe
import Derived.Deep.DeepCutAuto
import Derived.LoopTactic
import Derived.Deep.MidRow
namespace Go.Proofs.Ytpbepnpnpopmfaa
open Go.RowKit Plain
set_option linter.unusedVariables false
set_option linter.unusedSimpArgs false

theorem rg14_3{P:Program}{B n:Nat}{w0:World}{L:List (Nat×Nat×Value)}{E F:World→Prop}{id:Nat}{Q:Exit→Act→World→Prop}{a:Act}{w:World}{A:Array Oper}{o0 o1 o2 o3 o4 o5 o6 o7 o8 o9 o10 o11 o12:Oper}(hm:P.follows .mixedOrders=true)(hA:A=[o0,o1,o2,o3,o4,o5,o6,o7,o8,o9,o10,o11,o12].toArray)(hB:regOk A [1,6] [0,2,3,5,7,8,9,11] (.fs [0,2,5,7,8] (.rs [1] (.fs [3] (.rs [6] (.fs [9] (.alt 4 (.altc 10 (.fs [11] (.altc 12 .done .stop)) .stop) .stop))))))=true)(c:RC B w0 n L E F w)
  (h:∀wk,Kept B w0 n L wk→E wk→F wk→wpQuiet P A (fun _=>True) (fun a0=>wpQuiet P A (fun w' =>∃s:KX B w0 n L E,w' =s.val) (fun a1=>wpQuiet P A (fun _=>True) (fun a2=>wpQuiet P A (fun w' =>∃s:KX B w0 n L E,w' =s.val) (fun a3=>wpQuiet P A (fun _=>True) (fun a4=>((∀K5:Act→World→Prop,(∀a5 w5,((∀K6:Act→World→Prop,(∀a6 w6,wpQuiet P A (fun _=>True) (fun a7=>((∀K8:Act→World→Prop,(∀a8 w8,Q .normal a8 w8→K8 a8 w8)→wpList P A (fun e a8 w8=>e= .normal∧K8 a8 w8) [o12] a7 w6)∧True)) [o11] a6→K6 a6 w6)→wpList P A (fun e a6 w6=>e= .normal∧K6 a6 w6) [o10] a5 w5)∧True)→K5 a5 w5)→wpList P A (fun e a5 w5=>e= .normal∧(∃s:KX B w0 n L E,w5=s.val)∧K5 a5 w5) [o4] a4 wk)∧True)) [o9] a3) [o6] a2) [o3] a1) [o1] a0) [o0,o2,o5,o7,o8] a):(Code.region id A true).wp P Q a w:=by
 subst hA;exact wp_reg _ _ _ hm hB c (fun wk k e f=>have g:=h wk k e f;Scr.of_fs _ _ rfl g fun _ g=>Scr.of_rs _ _ rfl g fun _ g=>Scr.of_fs _ _ rfl g fun _ g=>Scr.of_rs _ _ rfl g fun _ g=>Scr.of_fs _ _ rfl g fun _ g=>(Scr.of_alt rfl (g.1 _ fun _ _ g=>g) (fun _ _ g=>(Scr.of_altc rfl (g.1 _ fun _ _ g=>g) (fun _ _ g=>Scr.of_fs _ _ rfl g fun _ g=>(Scr.of_altc rfl (g.1 _ fun _ _ g=>g) (fun _ _ g=>g) trivial)) trivial)) trivial))
/-- the objects lie in a new row -/
theorem BdO.newObj{lo hi:Nat}{w w':World}{s:Bs}{B:Bd}(h:BdO lo hi w s B)(hb:Below w.heap.size w w')(hlo:lo≤w.heap.size)(hhi:hi≤w'.heap.size)(v:Sl)(l:List Ob)(hv:Ow oc 12 42 w' w.heap.size v.v l):BdO lo w'.heap.size w' {s with ob:=v} {B with ob:=l}:=
 have h2:=(h.below hb).mono (Nat.le_refl _) hhi
 ⟨(Ox.of hv).mono hlo (Nat.le_refl _),h2.il,h2.nd,h2.st,h2.qu,h2.ns,h2.bl⟩
set_option maxRecDepth 100000 in
set_option maxHeartbeats 4000000 in
theorem rremove(s:Bs)(B:Bd)(k:Nat)(x:Ob)(w:World)(h:BdR w s B)(hsm:B.Sm)(htl:B.Tl)(hk:B.ob[k]? =some x)(hf:∀(j:Nat) (q:Ob),j<k→B.ob[j]? =some q→q.id≠x.id):Calls Try.prog 14 #[bv s B,.int .i64 x.id] w (CpA w (rmB B k x.id)):=by
 have HR:=Lib.hid h;have HSM:=Lib.hid hsm;have HTL:=Lib.hid htl;have HKX:=Lib.hid hk;have HF:=Lib.hid hf;clear h hsm htl hk hf;go_enter Try.func14,Try.ntmps14
 go_upto_region 1 with fail
 change Code.wp Try.prog _ _ _ ((w.alloc (.cells (bcells s B) 34)).alloc (.cells (bcells nilS zeroB) 34))
 obtain⟨wz,hwz⟩:∃W,W=((w.alloc (.cells (bcells s B) 34)).alloc (.cells (bcells nilS zeroB) 34)):=⟨_,rfl⟩
 rw[←hwz];have b0:Below w.heap.size w (w.alloc (.cells (bcells s B) 34)):=by exact(Below.refl _ _).alloc (Nat.le_refl _) _
 have b1:Below (w.alloc (.cells (bcells s B) 34)).heap.size (w.alloc (.cells (bcells s B) 34)) wz:=by rw[hwz];exact(Below.refl _ _).alloc (Nat.le_refl _) _
 have HB:Hid (Below w.heap.size w wz):=Lib.hid (below_via b0 b1);have HXb:Hid (Bx wz (w.heap.size) s B):=Lib.hid ((Ro.new w (bcells s B) 34).below b1:Ro _ _ _ _);have HXz:Hid (Bx wz (w.heap.size+1) nilS zeroB):=Lib.hid (by rw[show w.heap.size+1=(w.alloc (.cells (bcells s B) 34)).heap.size by simp];exact(by rw[hwz];exact(Ro.new (w.alloc (.cells (bcells s B) 34)) (bcells nilS zeroB) 34)));have HC1:Hid (w.heap.size+2≤wz.heap.size):=Lib.hid (by rw[hwz];simp);clear hwz b0 b1;go_wp2_with (first|(refine wpList_load_bx _ rfl rfl HXb.out (by kernel_rfl) ?_))
 with_reducible refine(rout s B x.id _ (HR.out.below HB.out) HSM.out HTL.out).mono ?_
 rintro e w1 ⟨sc,rfl,ho,hb⟩;have HC2:Hid (wz.heap.size≤w1.heap.size):=Lib.hid (hb.size);replace HB:=Lib.hid (below_via HB.out hb);replace HXb:=Lib.hid (HXb.out.below hb);replace HXz:=Lib.hid (HXz.out.below hb);have HOc:=Lib.hid ho;clear ho hb;go_wp2_with (first|(refine wpList_store_bh (s:=sc) (B:=(outB B x.id)) rfl _ _ rfl rfl rfl HXb.out rfl ?_))
 intro w2 hw0;have hon:Onl [w.heap.size] w1 w2:=by rw[hw0.out];exact Onl.setRow (Onl.refl _ _) (.inl (by simp)) _
 have hx:Bx w2 (w.heap.size) sc ((outB B x.id)):=by rw[hw0.out];exact Bx.row HXb.out _ _
 clear hw0;have hlo:w.heap.size≤w.heap.size:=by(have o0:=HC1.out;have o1:=HC2.out;have x0:=HXb.out.lt;have x1:=HXz.out.lt;omega)
 have hls:w.heap.size≤w1.heap.size:=HB.out.size;replace HB:=Lib.hid (belowOnl HB.out hon (by simp only[List.mem_singleton,forall_eq];exact hlo) hls);replace HXz:=Lib.hid (HXz.out.onl hon (by simp only[List.mem_singleton];(have o0:=HC1.out;have o1:=HC2.out;have x0:=HXb.out.lt;have x1:=HXz.out.lt;omega)));replace HOc:=Lib.hid (HOc.out.onlB hon HXb.out);have HC3:Hid (w1.heap.size≤w2.heap.size):=Lib.hid (hon.size);clear hlo hls;replace HXb:=Lib.hid hx;clear hx hon;go_wp2_with (first|(refine wpList_load_bx _ rfl rfl HXb.out (by kernel_rfl) ?_))
 with_reducible refine(rindex sc (outB B x.id) x.id _ HOc.out.rd).mono ?_
 rintro e w3 ⟨⟨r,rfl,hr⟩,hb⟩;have HC4:Hid (w2.heap.size≤w3.heap.size):=Lib.hid (hb.size);replace HB:=Lib.hid (below_via HB.out hb);replace HXb:=Lib.hid (HXb.out.below hb);replace HXz:=Lib.hid (HXz.out.below hb);replace HOc:=Lib.hid (HOc.out.below hb)
 obtain rfl:r=k:=by
  rcases hr with⟨_,h1⟩|⟨i,q,rfl,h2,h3,h4⟩
  ·exact absurd rfl (h1 k x HKX.out)
  ·rcases Nat.lt_trichotomy i k with h5|h5|h5
   ·exact absurd h3 (HF.out i q h5 h2)
   ·rw[h5]
   ·exact absurd rfl (h4 k x h5 HKX.out)
 have hkl:k<B.ob.length:=(List.getElem?_eq_some_iff.1 HKX.out).1
 obtain⟨g,cap,hov,hg1,hg2,hg3⟩:=HOc.out.ob.pos (by show 0<B.ob.length;omega)
 have hox:Ox oc 12 42 (wz.heap.size) (w1.heap.size) w3 sc.ob.v B.ob:=HOc.out.ob;have hov2:sc.ob.v= .slice (some ⟨g,0,none⟩) B.ob.length cap:=hov;rw[hov2] at hox
 have c0:w3.cell? ⟨w.heap.size,0,none⟩=some (.slice (some ⟨g,0,none⟩) B.ob.length cap):=(HXb.out.cell 0).trans (congrArg some hov2);have hbl:w.heap.size<w3.heap.size:=HXb.out.lt
 obtain⟨hlc,hcm⟩:B.ob.length≤cap∧cap≤maxLen:=by
  rcases hox.1.2 with⟨h1,_⟩|⟨g',cap',cur,h1,h2,h3,h4,h5,h6,h7⟩
  ·cases h1
  ·cases h1
   exact⟨h4,h5⟩
 have hrw:=hox.rw oc_len
 obtain⟨o',hA,hA2⟩:∃o':Nat,(if cap=k+1 then (some (⟨g,0,none⟩:Addr)) else some ⟨g,(k+1)*12,none⟩)=some ⟨g,o',none⟩∧(k+1<B.ob.length→o' =0+(k+1)*12):=by
  by_cases h:cap=k+1
  ·exact⟨0,by rw[if_pos h],fun h2=>by omega⟩
  ·exact⟨(k+1)*12,by rw[if_neg h],fun _=>by omega⟩
 have HT:Hid (Rw oc 12 w3 (.slice (some ⟨g,0,none⟩) k cap) (B.ob.take k)):=Lib.hid (hrw.take (by omega) cap (fun h=>by cases h));have HDR:Hid (Rw oc 12 w3 (.slice (some ⟨g,o',none⟩) (B.ob.length-(k+1)) (cap-(k+1))) (B.ob.drop (k+1))):=Lib.hid (hrw.drop (by omega) _ _ hA2);have hol:B.ob.length≤1000:=HSM.out.ob;have HOL:=Lib.hid hol;unfold maxLen at hcm
 have k1:k≤cap:=by omega
 have k2:k+1≤B.ob.length:=by omega
 have hw1:wrap64 ((k:Int)+1)=(k:Int)+1:=by unfold wrap64;omega
 clear hr hb hkl hov hov2 hox hrw hA2 hg1 hg2 hg3
 go_upto_region 3 with fail
 refine rg14_3 (w0:=w3) (B:=w3.heap.size) (n:=w3.heap.size) (L:=[]) (by kernel_rfl) rfl (by kernel_rfl) (.t ⟨by go_grown,by go_size,(by simp[go_sem]<;>omega)⟩) (fun w91 K_w91 E_w91 F_w91=> ?_);have _ne:Nonempty (KX (w3.heap.size) w3 (w3.heap.size) [] (fun _=>True)):=⟨⟨_,K_w91,E_w91⟩⟩
 repeat (go_big_quiet_step (fail))
 refine wpQuiet_nil ?_;have ra:=rck _ne c0 hbl
 repeat (go_big_quiet_step (fail))
 refine wpQuiet_nil ?_
 repeat (go_big_quiet_step (fail))
 refine wpQuiet_nil ?_
 repeat (go_big_quiet_step (fail))
 refine wpQuiet_nil ?_
 repeat (go_big_quiet_step (fail))
 refine wpQuiet_nil ?_;have KH_w91:=Lib.hid K_w91;have hw_w91:=K_w91.below;have hz_w91:=K_w91.size;clear K_w91;clear E_w91 F_w91
 refine⟨fun K hK0=> ?_,trivial⟩
 have hK:=Lib.hid hK0;clear hK0;go_wp2_with (at_builtin;refine wpList_append_ow (f:=oc) (sz:=12) rfl _ _ 23 rfl w3.heap.size 42 _ 80 Try.underlying23 infoO rfl (by decide) _ [] rfl (Ow.nil _ _ _) oc_ok _ (B.ob.take k) rfl (HT.out.below KH_w91.out.below) ?d1 ?d2 KH_w91.out.below.size ?_)
 case d1=>have:=HOL.out;simp[maxLen];omega
 case d2=>have:=HOL.out;simp;omega
 intro v1 wa hown hgrow hwh;have HA:Hid (Ow oc 12 42 wa w3.heap.size v1 (B.ob.take k)):=Lib.hid hown;have HBA:Hid (Below w3.heap.size w3 wa):=Lib.hid (KH_w91.out.below.grown hgrow KH_w91.out.below.size (by simp[Value.ownBlock]));clear hown hgrow hwh
 first|refine⟨rfl,?u,hK.out _ _ ?_⟩|refine⟨?u,hK.out _ _ ?_⟩
 case u=>exact⟨⟨_,(⟨HBA.out,HBA.out.size,by simp⟩:Kept w3.heap.size w3 w3.heap.size [] wa),trivial⟩,rfl⟩
 clear hK K
 refine⟨fun K hK0=> ?_,trivial⟩
 have hK:=Lib.hid hK0;clear hK0;go_wp2_with (at_builtin;refine wpList_append_ow (f:=oc) (sz:=12) rfl _ _ 23 rfl w3.heap.size 42 _ 80 Try.underlying23 infoO rfl (by decide) _ (B.ob.take k) rfl HA.out oc_ok _ (B.ob.drop (k+1)) rfl (HDR.out.below HBA.out) ?d3 ?d4 HBA.out.size ?_)
 case d3=>have:=HOL.out;simp[maxLen];omega
 case d4=>have:=HOL.out;simp;omega
 intro v2 wb hown hgrow hwh
 obtain⟨vb,vd,rfl⟩:=hown.form
 obtain⟨n2,hn2⟩:∃n,n=(B.ob.take k++B.ob.drop (k+1)).length:=⟨_,rfl⟩
 rw[←hn2] at hown ⊢
 rw[←List.eraseIdx_eq_take_drop_succ] at hown
 have HOb:=Lib.hid hown;have HBB:Hid (Below w3.heap.size w3 wb):=Lib.hid (HBA.out.grown hgrow HBA.out.size (fun q hq=>(HA.out.typ q hq).1));replace HB:=Lib.hid (below_via HB.out HBB.out);replace HXb:=Lib.hid (HXb.out.below HBB.out);replace HXz:=Lib.hid (HXz.out.below HBB.out);have HCb:Hid (w3.heap.size≤wb.heap.size):=Lib.hid HBB.out.size;have HOn:=Lib.hid (HOc.out.newObj HBB.out (by(have o0:=HC1.out;have o1:=HC2.out;have o2:=HC3.out;have o3:=HC4.out;have x0:=HXb.out.lt;have x1:=HXz.out.lt;omega)) (by have h1:=HCb.out;(have o0:=HC1.out;have o1:=HC2.out;have o2:=HC3.out;have o3:=HC4.out;have x0:=HXb.out.lt;have x1:=HXz.out.lt;omega)) ⟨vb,n2,vd⟩ (B.ob.eraseIdx k) HOb.out);have c9:wb.cell? ⟨w.heap.size,0,none⟩=some (sc.ob.v):=HXb.out.cell 0;have f9:=HXb.out.free 0;clear hown hgrow hwh hn2 HA HBA HT HDR HOc
 first|refine⟨rfl,hK.out _ _ ?_⟩|refine hK.out _ _ ?_
 clear hK K
 repeat (go_big_quiet_step (fail))
 refine wpQuiet_nil ?_
 refine⟨fun K hK0=> ?_,trivial⟩
 have hK:=Lib.hid hK0;clear hK0;go_wp2_with fail
 first|refine⟨rfl,hK.out _ _ ?_⟩|refine hK.out _ _ ?_
 clear hK K;clear ra;clear _ne
 obtain⟨w10,hw⟩:∃X,X=wb.setCell ⟨w.heap.size,0,none⟩ (.slice vb n2 vd):=⟨_,rfl⟩
 rw[←hw];have hon:Onl [w.heap.size] wb w10:=by rw[hw];exact Onl.setCell (Onl.refl _ _) (.inl (by simp)) _
 have hx:Bx w10 w.heap.size ({sc with ob:=⟨vb,n2,vd⟩}) (rmB B k x.id):=by rw[hw];exact HXb.out.put 0 _ rfl
 replace HOn:Hid (BdO (wz.heap.size) wb.heap.size wb ({sc with ob:=⟨vb,n2,vd⟩}) (rmB B k x.id)):=HOn;clear hw c9 f9 hA k1 k2 hw1 hlc hcm hol c0 hbl;have hlo:w.heap.size≤w.heap.size:=by(have o0:=HC1.out;have o1:=HC2.out;have o2:=HC3.out;have o3:=HC4.out;have o4:=HCb.out;have x0:=HXb.out.lt;have x1:=HXz.out.lt;omega)
 have hls:w.heap.size≤wb.heap.size:=HB.out.size;replace HB:=Lib.hid (belowOnl HB.out hon (by simp only[List.mem_singleton,forall_eq];exact hlo) hls);replace HXz:=Lib.hid (HXz.out.onl hon (by simp only[List.mem_singleton];(have o0:=HC1.out;have o1:=HC2.out;have o2:=HC3.out;have o3:=HC4.out;have o4:=HCb.out;have x0:=HXb.out.lt;have x1:=HXz.out.lt;omega)));replace HOn:=Lib.hid (HOn.out.onlB hon HXb.out);have HC5:Hid (wb.heap.size≤w10.heap.size):=Lib.hid (hon.size);clear hlo hls;replace HXb:=Lib.hid hx;clear hx hon;go_wp2_with (first|(refine wpList_load_bx _ rfl rfl HXb.out (by kernel_rfl) ?_)|(refine wpList_store_bh (s:=({sc with ob:=⟨vb,n2,vd⟩})) (B:=(rmB B k x.id)) rfl _ _ rfl rfl rfl HXz.out rfl ?_;intro w4 hw9))
 have hg9:Bx w4 (w.heap.size+1) ({sc with ob:=⟨vb,n2,vd⟩}) ((rmB B k x.id)):=by rw[hw9.out];exact Bx.row HXz.out _ _
 have ho9:Onl [w.heap.size+1] w10 w4:=by rw[hw9.out];exact Onl.setRow (Onl.refl _ _) (.inl (by simp)) _
 have hlo:w.heap.size≤w.heap.size+1:=by(have o0:=HC1.out;have o1:=HC2.out;have o2:=HC3.out;have o3:=HC4.out;have o4:=HCb.out;have o5:=HC5.out;have x0:=HXb.out.lt;have x1:=HXz.out.lt;omega)
 have hb9:Below w.heap.size w w4:=belowOnl HB.out ho9 (by simp only[List.mem_singleton,forall_eq];exact hlo) HB.out.size;have HG9:=Lib.hid hg9;have HPOST:Hid (CpA w ((rmB B k x.id)) (.returned (bv ({sc with ob:=⟨vb,n2,vd⟩}) ((rmB B k x.id)))) w4):=Lib.hid ⟨_,rfl,(HOn.out.onlB ho9 HXz.out).mono (by(have o0:=HC1.out;have o1:=HC2.out;have o2:=HC3.out;have o3:=HC4.out;have o4:=HCb.out;have o5:=HC5.out;have x0:=HXb.out.lt;have x1:=HXz.out.lt;omega)) (by have h9:=ho9.size;(have o0:=HC1.out;have o1:=HC2.out;have o2:=HC3.out;have o3:=HC4.out;have o4:=HCb.out;have o5:=HC5.out;have x0:=HXb.out.lt;have x1:=HXz.out.lt;omega)),hb9⟩;clear hw9 hg9 ho9 hb9 hlo;go_wp2_with fail
 exact bodyPost_ret (v:=bv ({sc with ob:=⟨vb,n2,vd⟩}) ((rmB B k x.id))) (results_b0 Try.results14 _ _ HG9.out rfl) rfl HPOST.out
end Go.Proofs.Ytpbepnpnpopmfaa
namespace Go.Proofs.Ytpbepnpnpopmfaa
open Go.RowKit Plain
set_option linter.unusedVariables false
set_option linter.unusedSimpArgs false

theorem rg11_8{P:Program}{B n:Nat}{w0:World}{L:List (Nat×Nat×Value)}{E F:World→Prop}{id:Nat}{Q:Exit→Act→World→Prop}{a:Act}{w:World}{A:Array Oper}{o0 o1 o2 o3 o4 o5 o6 o7 o8:Oper}(hm:P.follows .mixedOrders=true)(hA:A=[o0,o1,o2,o3,o4,o5,o6,o7,o8].toArray)(hB:regOk A [0,3] [2,4,5,6,8] (.fs [2,4,5] (.rs [0,3] (.fs [6] (.alt 1 (.altc 7 (.fs [8] .done) .stop) .stop))))=true)(c:RC B w0 n L E F w)
  (h:∀wk,Kept B w0 n L wk→E wk→F wk→wpQuiet P A (fun _=>True) (fun a0=>wpQuiet P A (fun w' =>∃s:KX B w0 n L E,w' =s.val) (fun a1=>wpQuiet P A (fun _=>True) (fun a2=>((∀K3:Act→World→Prop,(∀a3 w3,((∀K4:Act→World→Prop,(∀a4 w4,wpQuiet P A (fun _=>True) (fun a5=>Q .normal a5 w4) [o8] a4→K4 a4 w4)→wpList P A (fun e a4 w4=>e= .normal∧K4 a4 w4) [o7] a3 w3)∧True)→K3 a3 w3)→wpList P A (fun e a3 w3=>e= .normal∧(∃s:KX B w0 n L E,w3=s.val)∧K3 a3 w3) [o1] a2 wk)∧True)) [o6] a1) [o0,o3] a0) [o2,o4,o5] a):(Code.region id A true).wp P Q a w:=by
 subst hA;exact wp_reg _ _ _ hm hB c (fun wk k e f=>have g:=h wk k e f;Scr.of_fs _ _ rfl g fun _ g=>Scr.of_rs _ _ rfl g fun _ g=>Scr.of_fs _ _ rfl g fun _ g=>(Scr.of_alt rfl (g.1 _ fun _ _ g=>g) (fun _ _ g=>(Scr.of_altc rfl (g.1 _ fun _ _ g=>g) (fun _ _ g=>Scr.of_fs _ _ rfl g fun _ g=>g) trivial)) trivial))
set_option maxRecDepth 100000 in
set_option maxHeartbeats 2000000 in
theorem radd(a b:Int)(w:World):Calls Try.prog 26 #[.int .i64 a,.int .i64 b] w fun e w' =>e= .returned (.int .i64 (ad a b))∧w=w':=by
 go_enter Try.func26,Try.ntmps26
 go_wp2
 all_goals
  go_returns
  exact⟨ret_int (by unfold ad cl;omega),rfl⟩
theorem raddc(a b c:Int)(w:World)(hc:ad a b=c):Calls Try.prog 26 #[.int .i64 a,.int .i64 b] w fun e w' =>e= .returned (.int .i64 c)∧w=w':=by
 subst hc;exact radd a b w
/-- a token that has just come -/
def Plain.tkO(id p pw tg:Int):Ob:=⟨id, -1,p,ad 0 pw,ad 0 tg,0,0,0,0,false,true,false⟩
/-- a board with one token more -/
def Plain.tkB(B:Bd)(p:Nat)(pw tg:Int):Bd:=({B with ob:=B.ob++[tkO ((B.ob.length+1:Nat):Int) p pw tg]}:Bd).setL p 2 ((B.seat p).fld++[((B.ob.length+1:Nat):Int)])
/-- the ids are 1, 2, and so on -/
def Plain.Seq(l:List Ob):Prop:=∀(i:Nat) (q:Ob),l[i]? =some q→q.id=((i+1:Nat):Int)
theorem rput2c(s:Bs)(B:Bd)(x:Ob)(p lo hi:Nat)(w:World)(h:BdO lo hi w s B)(hlo:lo≤w.heap.size)(hhi:hi≤w.heap.size)(hsm:B.Sm)(hp:p<2)(hox:x.ow=(p:Nat))(T:Bd)(hT:B.setL p 2 ((B.seat p).fld++[x.id])=T):Calls Try.prog 18 #[bv s B,.agg (oc x).toArray,.int .i64 2] w (PtA lo w T):=hT▸rput2 s B x p lo hi w h hlo hhi hsm hp hox
def TkL(w:World)(n:Nat)(v:Value)(wr:World):Prop:=∃j:Nat,1≤j∧j≤n+1∧v= .int .i64 j∧Below w.heap.size w wr
set_option maxRecDepth 100000 in
set_option maxHeartbeats 4000000 in
theorem rtoken(s:Bs)(B:Bd)(n p:Nat)(pw tg most:Int)(w:World)(h:BdR w s B)(hsm:B.Sm)(htl:B.Tl)(hq:Seq B.ob)(hbn:B.ob.length=n)(hn4:n≤400)(hmo:(n:Int)<most)(hp:p<2):Calls Try.prog 11 #[bv s B,.int .i64 p,.int .i64 pw,.int .i64 tg,.int .i64 most] w (BrA w (tkB B p pw tg) (.int .i64 ((B.ob.length+1:Nat):Int))):=by
 have HR:=Lib.hid h;have HSM:=Lib.hid hsm;have HTL:=Lib.hid htl;have HQ:=Lib.hid hq;have HPP:=Lib.hid hp;have HBN:=Lib.hid hbn;clear h hsm htl hq hp hbn;go_enter Try.func11,Try.ntmps11
 go_upto_region 1 with fail
 change Code.wp Try.prog _ _ _ ((w.alloc (.cells (bcells s B) 34)).alloc (.cells (bcells nilS zeroB) 34))
 obtain⟨wz,hwz⟩:∃W,W=((w.alloc (.cells (bcells s B) 34)).alloc (.cells (bcells nilS zeroB) 34)):=⟨_,rfl⟩
 rw[←hwz];have b0:Below w.heap.size w (w.alloc (.cells (bcells s B) 34)):=by exact(Below.refl _ _).alloc (Nat.le_refl _) _
 have b1:Below (w.alloc (.cells (bcells s B) 34)).heap.size (w.alloc (.cells (bcells s B) 34)) wz:=by rw[hwz];exact(Below.refl _ _).alloc (Nat.le_refl _) _
 have HB:Hid (Below w.heap.size w wz):=Lib.hid (below_via b0 b1);have HXb:Hid (Bx wz (w.heap.size) s B):=Lib.hid ((Ro.new w (bcells s B) 34).below b1:Ro _ _ _ _);have HXz:Hid (Bx wz (w.heap.size+1) nilS zeroB):=Lib.hid (by rw[show w.heap.size+1=(w.alloc (.cells (bcells s B) 34)).heap.size by simp];exact(by rw[hwz];exact(Ro.new (w.alloc (.cells (bcells s B) 34)) (bcells nilS zeroB) 34)));have HC1:Hid (w.heap.size+2≤wz.heap.size):=Lib.hid (by rw[hwz];simp);clear hwz b0 b1;go_wp2_with (first|(refine wpList_load_bx _ rfl rfl HXb.out (by kernel_rfl) ?_))
 with_reducible refine(rcopy s B _ (HR.out.below HB.out) HSM.out HTL.out).mono ?_
 rintro e w1 ⟨sc,rfl,ho,hb⟩;have HC2:Hid (wz.heap.size≤w1.heap.size):=Lib.hid (hb.size);replace HB:=Lib.hid (below_via HB.out hb);replace HXb:=Lib.hid (HXb.out.below hb);replace HXz:=Lib.hid (HXz.out.below hb);have HOc:=Lib.hid ho;clear ho hb;go_wp2_with (first|(refine wpList_store_bh (s:=sc) (B:=B) rfl _ _ rfl rfl rfl HXb.out rfl ?_))
 intro w2 hw0;have hon:Onl [w.heap.size] w1 w2:=by rw[hw0.out];exact Onl.setRow (Onl.refl _ _) (.inl (by simp)) _
 have hx:Bx w2 (w.heap.size) sc (B):=by rw[hw0.out];exact Bx.row HXb.out _ _
 clear hw0;have hlo:w.heap.size≤w.heap.size:=by(have o0:=HC1.out;have o1:=HC2.out;have x0:=HXb.out.lt;have x1:=HXz.out.lt;omega)
 have hls:w.heap.size≤w1.heap.size:=HB.out.size;replace HB:=Lib.hid (belowOnl HB.out hon (by simp only[List.mem_singleton,forall_eq];exact hlo) hls);replace HXz:=Lib.hid (HXz.out.onl hon (by simp only[List.mem_singleton];(have o0:=HC1.out;have o1:=HC2.out;have x0:=HXb.out.lt;have x1:=HXz.out.lt;omega)));replace HOc:=Lib.hid (HOc.out.onlB hon HXb.out);have HC3:Hid (w1.heap.size≤w2.heap.size):=Lib.hid (hon.size);clear hlo hls;replace HXb:=Lib.hid hx;clear hx hon;go_wp2_with fail
 go_loopw [12] (fun v wr=>TkL w2 n v wr) (fun v _=>n+1-(intOf v).toNat)
 case atStart=>exact⟨1,by omega,by omega,rfl,Below.refl _ _⟩
 case round=>
  obtain⟨j,hj1,hj,rfl,hb⟩:=hrel
  have HBI:=Lib.hid hb;have HXr:=Lib.hid (HXb.out.below hb);have HOr:=Lib.hid (HOc.out.below hb);clear hb
  by_cases hjn:j≤n
  ·go_wp2_with (refine wpList_load_bx _ rfl rfl HXr.out (by kernel_rfl) ?_)
   with_reducible refine(rindex sc B j _ HOr.out.rd).mono ?_
   rintro e wk ⟨⟨r,rfl,hr⟩,hb⟩
   have hr0:0≤r:=by
    rcases hr with⟨_,h1⟩|⟨i,q,rfl,_⟩
    ·obtain⟨q,hq⟩:∃q,B.ob[j-1]? =some q:=⟨_,List.getElem?_eq_getElem (by have:=HBN.out;omega)⟩
     have h2:=HQ.out _ q hq;exact absurd (by rw[h2];omega) (h1 (j-1) q hq)
    ·omega
   have t1:decide (r≥0)=true:=decide_eq_true hr0;have hw1:wrap64 ((j:Int)+1)=(j:Int)+1:=by unfold wrap64;omega
   replace HBI:=Lib.hid (below_via HBI.out hb);clear hr hb HXr HOr;go_wp2_with fail
   go_roundw
   case rel=>exact⟨j+1,by omega,by omega,by go_num,HBI.out⟩
   case measure=>simp[intOf];omega
  ·have HJE:Hid (j=n+1):=Lib.hid (by omega)
   clear hjn hj1 hj;go_wp2_with (refine wpList_load_bx _ rfl rfl HXr.out (by kernel_rfl) ?_)
   with_reducible refine(rindex sc B j _ HOr.out.rd).mono ?_
   rintro e wk ⟨⟨r,rfl,hr⟩,hb⟩
   obtain rfl:r= -1:=by
    rcases hr with⟨h1,_⟩|⟨i,q,rfl,h2,h3,_⟩
    ·exact h1
    ·have h4:=HQ.out i q h2
     have h5:=(List.getElem?_eq_some_iff.1 h2).1
     have:=HBN.out
     rw[h3] at h4
     have:=HJE.out
     omega
   replace HBI:=Lib.hid (below_via HBI.out hb);clear hr hb HXr HOr;have hb:=HBI.out;replace HB:=Lib.hid (below_via HB.out hb);replace HXb:=Lib.hid (HXb.out.below hb);replace HXz:=Lib.hid (HXz.out.below hb);replace HOc:=Lib.hid (HOc.out.below hb);have HCt1:Hid (w2.heap.size≤wk.heap.size):=Lib.hid (hb.size)
   obtain⟨_,a,cap,hov,_⟩:=(HOc.out.ob.rw oc_len).form
   have hox:=HOc.out.ob;rw[hov,HBN.out] at hox
   rw[HBN.out] at hov
   have c0:wk.cell? ⟨w.heap.size,0,none⟩=some (.slice a n cap):=(HXb.out.cell 0).trans (congrArg some hov);have HRW:Hid (Rw oc 12 wk (.slice a n cap) B.ob):=Lib.hid (hox.rw oc_len)
   have hsh:(a=none∧n=0∧cap=0)∨∃g,a=some ⟨g,0,none⟩∧n≤cap∧cap≤maxLen:=by
    rcases hox.1.2 with⟨h1,h2⟩|⟨g',cap',cur,h1,h2,h3,h4,h5,h6,h7⟩
    ·simp only[Value.slice.injEq] at h1
     exact .inl h1
    ·simp only[Value.slice.injEq] at h1
     obtain⟨h8,h9,rfl⟩:=h1
     rw[HBN.out] at h4
     exact .inr ⟨g',h8,h4,h5⟩
   have t2:decide ((n:Int)≥most)=false:=decide_eq_false (by omega);have t3:decide ((j:Int)>500)=false:=decide_eq_false (by have:=HJE.out;omega);have hj2:(j:Int)-1=(n:Int):=by have:=HJE.out;omega
   have hw2:wrap64 ((j:Int)-1)=(n:Int):=by rw[hj2];unfold wrap64;omega
   clear hb hov hox
   go_upto_region 7 with fail
   clear t2 t3;go_wp2_with fail
   with_reducible refine(radd 0 pw _).mono ?_
   rintro e v3 ⟨rfl,rfl⟩;go_wp2_with fail
   with_reducible refine(radd 0 tg _).mono ?_
   rintro e v3 ⟨rfl,rfl⟩
   obtain⟨x,hx0⟩:∃x,x=tkO j p pw tg:=⟨_,rfl⟩
   have HXl:Hid (w.heap.size<wk.heap.size):=Lib.hid HXb.out.lt;go_wp2_with (refine wpList_store_o rfl (tkO j p pw tg) _ _ rfl rfl rfl (heap_alloc_new _ _) rfl ?_)
   intro v4 hw4;rw[←hx0] at hw4
   have hbx:=boxed_o hw4.out
   obtain⟨nT,hn⟩:∃n,n=wk.heap.size:=⟨_,rfl⟩
   rw[←hn] at hbx ⊢
   have hb:=hbx.1;rw[hn] at hb
   clear hw4;replace HB:=Lib.hid (below_via HB.out hb);replace HXb:=Lib.hid (HXb.out.below hb);replace HXz:=Lib.hid (HXz.out.below hb);replace HOc:=Lib.hid (HOc.out.below hb);have HT:Hid (Ro v4 nT (oc x).toArray 42):=Lib.hid hbx.2;have HCt2:Hid (wk.heap.size≤nT∧nT<v4.heap.size):=Lib.hid (⟨by omega,Ro.lt hbx.2⟩);have HX0:=Lib.hid hx0;have hbl:w.heap.size<v4.heap.size:=HXb.out.lt;replace HRW:=Lib.hid (HRW.out.below hb);have c1:v4.cell? ⟨w.heap.size,0,none⟩=some (.slice a n cap):=(below_via (Below.refl _ _) hb:Below wk.heap.size wk v4).cell (p:=⟨w.heap.size,0,none⟩) (HXl.out)|>.trans c0
   clear hbx hn hb hx0 c0
   go_upto_region 8 with fail
   rcases hsh with hsh|hsh
   ·obtain⟨rfl,rfl,rfl⟩:=hsh
    have hj3:(j:Int)-1=0:=by rw[hj2];rfl
    have hw3:wrap64 ((j:Int)-1)=0:=by rw[hw2];rfl
    have HE:Hid (Rw oc 12 v4 (.slice none 0 0) ([]:List Ob)):=Lib.hid (Rw.nil _);clear hj2 hw2
    obtain⟨a1,ha1⟩:∃a,a=ad 0 pw:=⟨_,rfl⟩
    obtain⟨a2,ha2⟩:∃a,a=ad 0 tg:=⟨_,rfl⟩
    have hx2:x=⟨j, -1,p,a1,a2,0,0,0,0,false,true,false⟩:=by rw[HX0.out,ha1,ha2];rfl
    have HX2:=Lib.hid hx2;have hnT:nT<v4.heap.size:=Ro.lt HT.out;have d0:v4.cell? ⟨nT,0,none⟩=some (.int .i64 j):=by rw[Ro.cell HT.out 0,hx2];rfl
    have d1:v4.cell? ⟨nT,1,none⟩=some (.int .i64 (-1)):=by rw[Ro.cell HT.out 1,hx2];rfl
    have d2:v4.cell? ⟨nT,2,none⟩=some (.int .i64 p):=by rw[Ro.cell HT.out 2,hx2];rfl
    have d3:v4.cell? ⟨nT,3,none⟩=some (.int .i64 a1):=by rw[Ro.cell HT.out 3,hx2];rfl
    have d4:v4.cell? ⟨nT,4,none⟩=some (.int .i64 a2):=by rw[Ro.cell HT.out 4,hx2];rfl
    have d5:v4.cell? ⟨nT,5,none⟩=some (.int .i64 0):=by rw[Ro.cell HT.out 5,hx2];rfl
    have d6:v4.cell? ⟨nT,6,none⟩=some (.int .i64 0):=by rw[Ro.cell HT.out 6,hx2];rfl
    have d7:v4.cell? ⟨nT,7,none⟩=some (.int .i64 0):=by rw[Ro.cell HT.out 7,hx2];rfl
    have d8:v4.cell? ⟨nT,8,none⟩=some (.int .i64 0):=by rw[Ro.cell HT.out 8,hx2];rfl
    have d9:v4.cell? ⟨nT,9,none⟩=some (.bool false):=by rw[Ro.cell HT.out 9,hx2];rfl
    have d10:v4.cell? ⟨nT,10,none⟩=some (.bool true):=by rw[Ro.cell HT.out 10,hx2];rfl
    have d11:v4.cell? ⟨nT,11,none⟩=some (.bool false):=by rw[Ro.cell HT.out 11,hx2];rfl
    clear hx2 ha1 ha2;refine rg11_8 (w0:=v4) (B:=v4.heap.size) (n:=v4.heap.size) (L:=[]) (by kernel_rfl) rfl (by kernel_rfl) (.t ⟨by go_grown,by go_size,(by simp[go_sem]<;>omega)⟩) (fun w91 K_w91 E_w91 F_w91=> ?_);have _ne:Nonempty (KX (v4.heap.size) v4 (v4.heap.size) [] (fun _=>True)):=⟨⟨_,K_w91,E_w91⟩⟩
    repeat (go_big_quiet_step (fail))
    refine wpQuiet_nil ?_;have ra:=rck _ne c1 hbl;have rd0:=rck _ne d0 hnT;have rd1:=rck _ne d1 hnT;have rd2:=rck _ne d2 hnT;have rd3:=rck _ne d3 hnT;have rd4:=rck _ne d4 hnT;have rd5:=rck _ne d5 hnT;have rd6:=rck _ne d6 hnT;have rd7:=rck _ne d7 hnT;have rd8:=rck _ne d8 hnT;have rd9:=rck _ne d9 hnT;have rd10:=rck _ne d10 hnT;have rd11:=rck _ne d11 hnT
    repeat (go_big_quiet_step (fail))
    refine wpQuiet_nil ?_
    repeat (go_big_quiet_step (fail))
    refine wpQuiet_nil ?_;have KH_w91:=Lib.hid K_w91;have hw_w91:=K_w91.below;have hz_w91:=K_w91.size;clear K_w91;clear E_w91 F_w91
    refine⟨fun K hK0=> ?_,trivial⟩
    have hK:=Lib.hid hK0;clear hK0;go_wp2_with fail
    obtain⟨wa,hwa⟩:∃W,W=w91.alloc (.cells #[.int .i64 j,.int .i64 (-1),.int .i64 p,.int .i64 a1,.int .i64 a2,.int .i64 0,.int .i64 0,.int .i64 0,.int .i64 0,.bool false,.bool true,.bool false] 42):=⟨_,rfl⟩
    rw[←hwa];have HAo:Hid (Ow oc 12 42 wa v4.heap.size (.slice (some ⟨w91.heap.size,0,none⟩) 1 1) [x]):=Lib.hid (by rw[hwa];exact Ow.lit w91 42 [x] #[.int .i64 j,.int .i64 (-1),.int .i64 p,.int .i64 a1,.int .i64 a2,.int .i64 0,.int .i64 0,.int .i64 0,.int .i64 0,.bool false,.bool true,.bool false] (by rw[HX2.out];rfl) oc_len v4.heap.size KH_w91.out.below.size (by simp[maxLen]));have HBA:Hid (Below v4.heap.size v4 wa):=Lib.hid (by rw[hwa];exact KH_w91.out.below.alloc KH_w91.out.below.size _);clear hwa
    first|refine⟨rfl,?u,hK.out _ _ ?_⟩|refine⟨?u,hK.out _ _ ?_⟩
    case u=>exact⟨⟨_,(⟨HBA.out,HBA.out.size,by simp⟩:Kept v4.heap.size v4 v4.heap.size [] wa),trivial⟩,rfl⟩
    clear hK K
    refine⟨fun K hK0=> ?_,trivial⟩
    have hK:=Lib.hid hK0;clear hK0;go_wp2_with (at_builtin;refine wpList_append_ow (f:=oc) (sz:=12) rfl _ _ 23 rfl v4.heap.size 42 _ 80 Try.underlying23 infoO rfl (by decide) _ [x] rfl HAo.out oc_ok _ [] rfl (HE.out.below HBA.out) ?d1 ?d2 HBA.out.size ?_)
    case d1=>simp[maxLen]
    case d2=>simp
    intro v1 wb hown hgrow hwh
    obtain⟨vb,vd,rfl⟩:=hown.form
    have HA1:Hid (Ow oc 12 42 wb v4.heap.size (.slice vb 1 vd) [x]):=Lib.hid hown;have HBB:Hid (Below v4.heap.size v4 wb):=Lib.hid (HBA.out.grown hgrow HBA.out.size (fun q hq=>(HAo.out.typ q hq).1));clear hown hgrow hwh HAo HBA HE
    first|refine⟨rfl,hK.out _ _ ?_⟩|refine hK.out _ _ ?_
    clear hK K
    repeat (go_big_quiet_step (fail))
    refine wpQuiet_nil ?_;clear ra rd0 rd1 rd2 rd3 rd4 rd5 rd6 rd7 rd8 rd9 rd10 rd11;clear _ne;clear hnT d0 d1 d2 d3 d4 d5 d6 d7 d8 d9 d10 d11;have hb:=HBB.out;replace HRW:=Lib.hid (HRW.out.below hb);replace HT:=Lib.hid (Ro.below HT.out hb);replace c1:=(hb.cell (p:=⟨w.heap.size,0,none⟩) hbl).trans c1;replace HB:=Lib.hid (below_via HB.out hb);replace HXb:=Lib.hid (HXb.out.below hb);replace HXz:=Lib.hid (HXz.out.below hb);replace HOc:=Lib.hid (HOc.out.below hb);have HCt3:Hid (v4.heap.size≤wb.heap.size):=Lib.hid (hb.size);clear hb hbl HBB;have HTK:Hid (Rw oc 12 wb (.slice none 0 0) B.ob):=HRW;have HBL:Hid (B.ob.length≤400):=Lib.hid (by have:=HBN.out;omega)
    go_upto_region 9 with fail
    go_wp2_with (at_builtin;refine wpList_append_ow (f:=oc) (sz:=12) rfl _ _ 23 rfl wb.heap.size 42 _ 80 Try.underlying23 infoO rfl (by decide) _ [] rfl (Ow.nil _ _ _) oc_ok _ B.ob rfl HTK.out ?e1 ?e2 (Nat.le_refl _) ?_)
    case e1=>have:=HBL.out;simp[maxLen];omega
    case e2=>have:=HBL.out;simp;omega
    intro v2 wd hown hgrow hwh;have HA2:Hid (Ow oc 12 42 wd wb.heap.size v2 B.ob):=Lib.hid hown;have HBD:Hid (Below wb.heap.size wb wd):=Lib.hid ((Below.refl _ _).grown hgrow (Nat.le_refl _) (by simp[Value.ownBlock]));have HR1:Hid (Rw oc 12 wd (.slice vb 1 vd) [x]):=Lib.hid ((HA1.out.rw oc_len).below HBD.out);clear hown hgrow hwh HRW HTK HA1;go_wp2_with (at_builtin;refine wpList_append_ow (f:=oc) (sz:=12) rfl _ _ 23 rfl wb.heap.size 42 _ 80 Try.underlying23 infoO rfl (by decide) _ B.ob rfl HA2.out oc_ok _ [x] rfl HR1.out ?e3 ?e4 HBD.out.size ?_)
    case e3=>have:=HBL.out;simp[maxLen];omega
    case e4=>have:=HBL.out;simp;omega
    intro v3 we hown hgrow hwh
    obtain⟨vq,vr,rfl⟩:=hown.form
    obtain⟨n4,hn4⟩:∃n,n=(B.ob++[x]).length:=⟨_,rfl⟩
    rw[←hn4] at hown ⊢
    have HOW:=Lib.hid hown;have HBE:Hid (Below wb.heap.size wb we):=Lib.hid (HBD.out.grown hgrow HBD.out.size (fun q hq=>(HA2.out.typ q hq).1));clear hown hgrow hwh hn4 HA2 HR1 HBD;have HOn:=Lib.hid (HOc.out.newObj HBE.out (by(have o0:=HC1.out;have o1:=HC2.out;have o2:=HC3.out;have o3:=HCt1.out;have o4:=HCt2.out;have o5:=HCt3.out;have x0:=HXb.out.lt;have x1:=HXz.out.lt;omega)) (by have h1:=HBE.out.size;(have o0:=HC1.out;have o1:=HC2.out;have o2:=HC3.out;have o3:=HCt1.out;have o4:=HCt2.out;have o5:=HCt3.out;have x0:=HXb.out.lt;have x1:=HXz.out.lt;omega)) ⟨vq,n4,vr⟩ (B.ob++[x]) HOW.out);have hb:=HBE.out;replace HT:=Lib.hid (Ro.below HT.out hb);clear HOW;replace HB:=Lib.hid (below_via HB.out hb);replace HXb:=Lib.hid (HXb.out.below hb);replace HXz:=Lib.hid (HXz.out.below hb);have HCt4:Hid (wb.heap.size≤we.heap.size):=Lib.hid (hb.size);clear hb HBE HOc c1;replace HOn:Hid (BdO (wz.heap.size) we.heap.size we ({sc with ob:=⟨vq,n4,vr⟩}) ({B with ob:=B.ob++[x]})):=HOn;have c0:we.cell? ⟨w.heap.size,0,none⟩=some (sc.ob.v):=HXb.out.cell 0;have f0:we.frozen? ⟨w.heap.size,0,none⟩=false:=HXb.out.free 0
    go_upto_region 10 with fail
    obtain⟨wt1,hw⟩:∃X,X=we.setCell ⟨w.heap.size,0,none⟩ (.slice vq n4 vr):=⟨_,rfl⟩
    rw[←hw];have hon:Onl [w.heap.size] we wt1:=by rw[hw];exact Onl.setCell (Onl.refl _ _) (.inl (by simp)) _
    have hx:Bx wt1 (w.heap.size) ({sc with ob:=⟨vq,n4,vr⟩}) (({B with ob:=B.ob++[x]})):=by rw[hw];exact HXb.out.put 0 _ rfl
    clear hw c0 f0;have hlo:w.heap.size≤w.heap.size:=by(have o0:=HC1.out;have o1:=HC2.out;have o2:=HC3.out;have o3:=HCt1.out;have o4:=HCt2.out;have o5:=HCt3.out;have o6:=HCt4.out;have x0:=HXb.out.lt;have x1:=HXz.out.lt;omega)
    have hls:w.heap.size≤we.heap.size:=HB.out.size;replace HB:=Lib.hid (belowOnl HB.out hon (by simp only[List.mem_singleton,forall_eq];exact hlo) hls);replace HT:=Lib.hid (HT.out.onl hon (by simp only[List.mem_singleton];(have o0:=HC1.out;have o1:=HC2.out;have o2:=HC3.out;have o3:=HCt1.out;have o4:=HCt2.out;have o5:=HCt3.out;have o6:=HCt4.out;have x0:=HXb.out.lt;have x1:=HXz.out.lt;omega)));replace HXz:=Lib.hid (HXz.out.onl hon (by simp only[List.mem_singleton];(have o0:=HC1.out;have o1:=HC2.out;have o2:=HC3.out;have o3:=HCt1.out;have o4:=HCt2.out;have o5:=HCt3.out;have o6:=HCt4.out;have x0:=HXb.out.lt;have x1:=HXz.out.lt;omega)));replace HOn:=Lib.hid (HOn.out.onlB hon HXb.out);have HCt5:Hid (we.heap.size≤wt1.heap.size):=Lib.hid (hon.size);clear hlo hls;replace HXb:=Lib.hid hx;clear hx hon;go_wp2_with (first|(refine wpList_load_bx _ rfl rfl HXb.out (by kernel_rfl) ?_)|(refine wpList_load_o x _ rfl rfl HT.out (by kernel_rfl) ?_))
    have HSX:Hid (({B with ob:=B.ob++[x]}).Sm):=Lib.hid ⟨HSM.out.zs,by show(B.ob++[x]).length≤1000;rw[List.length_append];have:=HBL.out;simp;omega,HSM.out.st,HSM.out.qu,HSM.out.att,HSM.out.bl⟩
    obtain⟨TK,hTK⟩:∃T,T=tkB B p pw tg:=⟨_,rfl⟩
    have HXW:Hid (x.ow=(p:Nat)):=Lib.hid (by rw[HX0.out];rfl)
    have HTE:Hid ((({B with ob:=B.ob++[x]}):Bd).setL p 2 (((({B with ob:=B.ob++[x]}):Bd).seat p).fld++[x.id])=TK):=Lib.hid (by
     rw[hTK,HX0.out,HJE.out,←HBN.out];unfold tkB
     have:p=0∨p=1:=by have:=HPP.out;omega
     rcases this with rfl|rfl<;>rfl)
    have HTQ:=Lib.hid hTK;clear hTK;with_reducible refine(rput2c ({sc with ob:=⟨vq,n4,vr⟩}) ({B with ob:=B.ob++[x]}) x p (wz.heap.size) we.heap.size _ HOn.out (by(have o0:=HC1.out;have o1:=HC2.out;have o2:=HC3.out;have o3:=HCt1.out;have o4:=HCt2.out;have o5:=HCt3.out;have o6:=HCt4.out;have o7:=HCt5.out;have x0:=HXb.out.lt;have x1:=HXz.out.lt;omega)) (by(have o0:=HC1.out;have o1:=HC2.out;have o2:=HC3.out;have o3:=HCt1.out;have o4:=HCt2.out;have o5:=HCt3.out;have o6:=HCt4.out;have o7:=HCt5.out;have x0:=HXb.out.lt;have x1:=HXz.out.lt;omega)) HSX.out HPP.out HXW.out TK HTE.out).mono ?_
    rintro e wt2 ⟨sp,rfl,ho,hb⟩;have HCt6:Hid (wt1.heap.size≤wt2.heap.size):=Lib.hid (hb.size);replace HB:=Lib.hid (below_via HB.out hb);replace HXb:=Lib.hid (HXb.out.below hb);replace HXz:=Lib.hid (HXz.out.below hb);replace HOn:=Lib.hid (HOn.out.below hb);have HOp:=Lib.hid ho;clear ho hb HOn HSX HT;have HRT:Hid (((B.ob.length+1:Nat):Int)=(j:Int)):=Lib.hid (by rw[HBN.out,HJE.out]);clear HX0 HXW HTE;go_wp2_with (first|(refine wpList_store_bh (s:=sp) (B:=TK) rfl _ _ rfl rfl rfl HXz.out rfl ?_;intro wt3 hw9))
    have hg9:Bx wt3 (w.heap.size+1) sp (TK):=by rw[hw9.out];exact Bx.row HXz.out _ _
    have ho9:Onl [w.heap.size+1] wt2 wt3:=by rw[hw9.out];exact Onl.setRow (Onl.refl _ _) (.inl (by simp)) _
    have hlo:w.heap.size≤w.heap.size+1:=by(have o0:=HC1.out;have o1:=HC2.out;have o2:=HC3.out;have o3:=HCt1.out;have o4:=HCt2.out;have o5:=HCt3.out;have o6:=HCt4.out;have o7:=HCt5.out;have o8:=HCt6.out;have x0:=HXb.out.lt;have x1:=HXz.out.lt;omega)
    have hb9:Below w.heap.size w wt3:=belowOnl HB.out ho9 (by simp only[List.mem_singleton,forall_eq];exact hlo) HB.out.size;have HG9:=Lib.hid hg9;have HPOST:Hid (BrA w (tkB B p pw tg) (.int .i64 ((B.ob.length+1:Nat):Int)) (.returned (.tuple #[bv sp (TK),.int .i64 (j:Nat)])) wt3):=Lib.hid (by rw[←HTQ.out,HRT.out];exact⟨_,rfl,(HOp.out.onlB ho9 HXz.out).mono (by(have o0:=HC1.out;have o1:=HC2.out;have o2:=HC3.out;have o3:=HCt1.out;have o4:=HCt2.out;have o5:=HCt3.out;have o6:=HCt4.out;have o7:=HCt5.out;have o8:=HCt6.out;have x0:=HXb.out.lt;have x1:=HXz.out.lt;omega)) (by have h9:=ho9.size;(have o0:=HC1.out;have o1:=HC2.out;have o2:=HC3.out;have o3:=HCt1.out;have o4:=HCt2.out;have o5:=HCt3.out;have o6:=HCt4.out;have o7:=HCt5.out;have o8:=HCt6.out;have x0:=HXb.out.lt;have x1:=HXz.out.lt;omega)),hb9⟩);clear hw9 hg9 ho9 hb9 hlo;go_wp2_with fail
    exact bodyPost_ret (v:= .tuple #[bv sp (TK),.int .i64 (j:Nat)]) (results_b1 Try.results11 _ _ HG9.out rfl rfl) rfl HPOST.out
   ·obtain⟨g,rfl,hnc,hcm⟩:=hsh
    unfold maxLen at hcm
    obtain⟨o',hA⟩:∃o':Nat,(if cap=n then (some (⟨g,0,none⟩:Addr)) else some ⟨g,n*12,none⟩)=some ⟨g,o',none⟩:=by
     by_cases h:cap=n
     ·exact⟨0,by rw[if_pos h]⟩
     ·exact⟨n*12,by rw[if_neg h]⟩
    have HE:Hid (Rw oc 12 v4 (.slice (some ⟨g,o',none⟩) 0 (cap-n)) ([]:List Ob)):=Lib.hid (.inl ⟨rfl,.inr ⟨_,_,rfl⟩⟩);have i1:(0:Int)≤(n:Int):=by omega
    have i2:(n:Int)≤(cap:Int):=by omega
    obtain⟨a1,ha1⟩:∃a,a=ad 0 pw:=⟨_,rfl⟩
    obtain⟨a2,ha2⟩:∃a,a=ad 0 tg:=⟨_,rfl⟩
    have hx2:x=⟨j, -1,p,a1,a2,0,0,0,0,false,true,false⟩:=by rw[HX0.out,ha1,ha2];rfl
    have HX2:=Lib.hid hx2;have hnT:nT<v4.heap.size:=Ro.lt HT.out;have d0:v4.cell? ⟨nT,0,none⟩=some (.int .i64 j):=by rw[Ro.cell HT.out 0,hx2];rfl
    have d1:v4.cell? ⟨nT,1,none⟩=some (.int .i64 (-1)):=by rw[Ro.cell HT.out 1,hx2];rfl
    have d2:v4.cell? ⟨nT,2,none⟩=some (.int .i64 p):=by rw[Ro.cell HT.out 2,hx2];rfl
    have d3:v4.cell? ⟨nT,3,none⟩=some (.int .i64 a1):=by rw[Ro.cell HT.out 3,hx2];rfl
    have d4:v4.cell? ⟨nT,4,none⟩=some (.int .i64 a2):=by rw[Ro.cell HT.out 4,hx2];rfl
    have d5:v4.cell? ⟨nT,5,none⟩=some (.int .i64 0):=by rw[Ro.cell HT.out 5,hx2];rfl
    have d6:v4.cell? ⟨nT,6,none⟩=some (.int .i64 0):=by rw[Ro.cell HT.out 6,hx2];rfl
    have d7:v4.cell? ⟨nT,7,none⟩=some (.int .i64 0):=by rw[Ro.cell HT.out 7,hx2];rfl
    have d8:v4.cell? ⟨nT,8,none⟩=some (.int .i64 0):=by rw[Ro.cell HT.out 8,hx2];rfl
    have d9:v4.cell? ⟨nT,9,none⟩=some (.bool false):=by rw[Ro.cell HT.out 9,hx2];rfl
    have d10:v4.cell? ⟨nT,10,none⟩=some (.bool true):=by rw[Ro.cell HT.out 10,hx2];rfl
    have d11:v4.cell? ⟨nT,11,none⟩=some (.bool false):=by rw[Ro.cell HT.out 11,hx2];rfl
    clear hx2 ha1 ha2;refine rg11_8 (w0:=v4) (B:=v4.heap.size) (n:=v4.heap.size) (L:=[]) (by kernel_rfl) rfl (by kernel_rfl) (.t ⟨by go_grown,by go_size,(by simp[go_sem]<;>omega)⟩) (fun w91 K_w91 E_w91 F_w91=> ?_);have _ne:Nonempty (KX (v4.heap.size) v4 (v4.heap.size) [] (fun _=>True)):=⟨⟨_,K_w91,E_w91⟩⟩
    repeat (go_big_quiet_step (fail))
    refine wpQuiet_nil ?_;have ra:=rck _ne c1 hbl;have rd0:=rck _ne d0 hnT;have rd1:=rck _ne d1 hnT;have rd2:=rck _ne d2 hnT;have rd3:=rck _ne d3 hnT;have rd4:=rck _ne d4 hnT;have rd5:=rck _ne d5 hnT;have rd6:=rck _ne d6 hnT;have rd7:=rck _ne d7 hnT;have rd8:=rck _ne d8 hnT;have rd9:=rck _ne d9 hnT;have rd10:=rck _ne d10 hnT;have rd11:=rck _ne d11 hnT
    repeat (go_big_quiet_step (fail))
    refine wpQuiet_nil ?_
    repeat (go_big_quiet_step (fail))
    refine wpQuiet_nil ?_;have KH_w91:=Lib.hid K_w91;have hw_w91:=K_w91.below;have hz_w91:=K_w91.size;clear K_w91;clear E_w91 F_w91
    refine⟨fun K hK0=> ?_,trivial⟩
    have hK:=Lib.hid hK0;clear hK0;go_wp2_with fail
    obtain⟨wa,hwa⟩:∃W,W=w91.alloc (.cells #[.int .i64 j,.int .i64 (-1),.int .i64 p,.int .i64 a1,.int .i64 a2,.int .i64 0,.int .i64 0,.int .i64 0,.int .i64 0,.bool false,.bool true,.bool false] 42):=⟨_,rfl⟩
    rw[←hwa];have HAo:Hid (Ow oc 12 42 wa v4.heap.size (.slice (some ⟨w91.heap.size,0,none⟩) 1 1) [x]):=Lib.hid (by rw[hwa];exact Ow.lit w91 42 [x] #[.int .i64 j,.int .i64 (-1),.int .i64 p,.int .i64 a1,.int .i64 a2,.int .i64 0,.int .i64 0,.int .i64 0,.int .i64 0,.bool false,.bool true,.bool false] (by rw[HX2.out];rfl) oc_len v4.heap.size KH_w91.out.below.size (by simp[maxLen]));have HBA:Hid (Below v4.heap.size v4 wa):=Lib.hid (by rw[hwa];exact KH_w91.out.below.alloc KH_w91.out.below.size _);clear hwa
    first|refine⟨rfl,?u,hK.out _ _ ?_⟩|refine⟨?u,hK.out _ _ ?_⟩
    case u=>exact⟨⟨_,(⟨HBA.out,HBA.out.size,by simp⟩:Kept v4.heap.size v4 v4.heap.size [] wa),trivial⟩,rfl⟩
    clear hK K
    refine⟨fun K hK0=> ?_,trivial⟩
    have hK:=Lib.hid hK0;clear hK0;go_wp2_with (at_builtin;refine wpList_append_ow (f:=oc) (sz:=12) rfl _ _ 23 rfl v4.heap.size 42 _ 80 Try.underlying23 infoO rfl (by decide) _ [x] rfl HAo.out oc_ok _ [] rfl (HE.out.below HBA.out) ?d1 ?d2 HBA.out.size ?_)
    case d1=>simp[maxLen]
    case d2=>simp
    intro v1 wb hown hgrow hwh
    obtain⟨vb,vd,rfl⟩:=hown.form
    have HA1:Hid (Ow oc 12 42 wb v4.heap.size (.slice vb 1 vd) [x]):=Lib.hid hown;have HBB:Hid (Below v4.heap.size v4 wb):=Lib.hid (HBA.out.grown hgrow HBA.out.size (fun q hq=>(HAo.out.typ q hq).1));clear hown hgrow hwh HAo HBA HE
    first|refine⟨rfl,hK.out _ _ ?_⟩|refine hK.out _ _ ?_
    clear hK K
    repeat (go_big_quiet_step (fail))
    refine wpQuiet_nil ?_;clear ra rd0 rd1 rd2 rd3 rd4 rd5 rd6 rd7 rd8 rd9 rd10 rd11;clear _ne;clear hnT d0 d1 d2 d3 d4 d5 d6 d7 d8 d9 d10 d11;have hb:=HBB.out;replace HRW:=Lib.hid (HRW.out.below hb);replace HT:=Lib.hid (Ro.below HT.out hb);replace c1:=(hb.cell (p:=⟨w.heap.size,0,none⟩) hbl).trans c1;replace HB:=Lib.hid (below_via HB.out hb);replace HXb:=Lib.hid (HXb.out.below hb);replace HXz:=Lib.hid (HXz.out.below hb);replace HOc:=Lib.hid (HOc.out.below hb);have HCt3:Hid (v4.heap.size≤wb.heap.size):=Lib.hid (hb.size);clear hb hbl HBB;have HTK:Hid (Rw oc 12 wb (.slice (some ⟨g,0,none⟩) n cap) B.ob):=HRW;have HBL:Hid (B.ob.length≤400):=Lib.hid (by have:=HBN.out;omega)
    go_upto_region 9 with fail
    go_wp2_with (at_builtin;refine wpList_append_ow (f:=oc) (sz:=12) rfl _ _ 23 rfl wb.heap.size 42 _ 80 Try.underlying23 infoO rfl (by decide) _ [] rfl (Ow.nil _ _ _) oc_ok _ B.ob rfl HTK.out ?e1 ?e2 (Nat.le_refl _) ?_)
    case e1=>have:=HBL.out;simp[maxLen];omega
    case e2=>have:=HBL.out;simp;omega
    intro v2 wd hown hgrow hwh;have HA2:Hid (Ow oc 12 42 wd wb.heap.size v2 B.ob):=Lib.hid hown;have HBD:Hid (Below wb.heap.size wb wd):=Lib.hid ((Below.refl _ _).grown hgrow (Nat.le_refl _) (by simp[Value.ownBlock]));have HR1:Hid (Rw oc 12 wd (.slice vb 1 vd) [x]):=Lib.hid ((HA1.out.rw oc_len).below HBD.out);clear hown hgrow hwh HRW HTK HA1;go_wp2_with (at_builtin;refine wpList_append_ow (f:=oc) (sz:=12) rfl _ _ 23 rfl wb.heap.size 42 _ 80 Try.underlying23 infoO rfl (by decide) _ B.ob rfl HA2.out oc_ok _ [x] rfl HR1.out ?e3 ?e4 HBD.out.size ?_)
    case e3=>have:=HBL.out;simp[maxLen];omega
    case e4=>have:=HBL.out;simp;omega
    intro v3 we hown hgrow hwh
    obtain⟨vq,vr,rfl⟩:=hown.form
    obtain⟨n4,hn4⟩:∃n,n=(B.ob++[x]).length:=⟨_,rfl⟩
    rw[←hn4] at hown ⊢
    have HOW:=Lib.hid hown;have HBE:Hid (Below wb.heap.size wb we):=Lib.hid (HBD.out.grown hgrow HBD.out.size (fun q hq=>(HA2.out.typ q hq).1));clear hown hgrow hwh hn4 HA2 HR1 HBD;have HOn:=Lib.hid (HOc.out.newObj HBE.out (by(have o0:=HC1.out;have o1:=HC2.out;have o2:=HC3.out;have o3:=HCt1.out;have o4:=HCt2.out;have o5:=HCt3.out;have x0:=HXb.out.lt;have x1:=HXz.out.lt;omega)) (by have h1:=HBE.out.size;(have o0:=HC1.out;have o1:=HC2.out;have o2:=HC3.out;have o3:=HCt1.out;have o4:=HCt2.out;have o5:=HCt3.out;have x0:=HXb.out.lt;have x1:=HXz.out.lt;omega)) ⟨vq,n4,vr⟩ (B.ob++[x]) HOW.out);have hb:=HBE.out;replace HT:=Lib.hid (Ro.below HT.out hb);clear HOW;replace HB:=Lib.hid (below_via HB.out hb);replace HXb:=Lib.hid (HXb.out.below hb);replace HXz:=Lib.hid (HXz.out.below hb);have HCt4:Hid (wb.heap.size≤we.heap.size):=Lib.hid (hb.size);clear hb HBE HOc c1;replace HOn:Hid (BdO (wz.heap.size) we.heap.size we ({sc with ob:=⟨vq,n4,vr⟩}) ({B with ob:=B.ob++[x]})):=HOn;have c0:we.cell? ⟨w.heap.size,0,none⟩=some (sc.ob.v):=HXb.out.cell 0;have f0:we.frozen? ⟨w.heap.size,0,none⟩=false:=HXb.out.free 0
    go_upto_region 10 with fail
    obtain⟨wt1,hw⟩:∃X,X=we.setCell ⟨w.heap.size,0,none⟩ (.slice vq n4 vr):=⟨_,rfl⟩
    rw[←hw];have hon:Onl [w.heap.size] we wt1:=by rw[hw];exact Onl.setCell (Onl.refl _ _) (.inl (by simp)) _
    have hx:Bx wt1 (w.heap.size) ({sc with ob:=⟨vq,n4,vr⟩}) (({B with ob:=B.ob++[x]})):=by rw[hw];exact HXb.out.put 0 _ rfl
    clear hw c0 f0;have hlo:w.heap.size≤w.heap.size:=by(have o0:=HC1.out;have o1:=HC2.out;have o2:=HC3.out;have o3:=HCt1.out;have o4:=HCt2.out;have o5:=HCt3.out;have o6:=HCt4.out;have x0:=HXb.out.lt;have x1:=HXz.out.lt;omega)
    have hls:w.heap.size≤we.heap.size:=HB.out.size;replace HB:=Lib.hid (belowOnl HB.out hon (by simp only[List.mem_singleton,forall_eq];exact hlo) hls);replace HT:=Lib.hid (HT.out.onl hon (by simp only[List.mem_singleton];(have o0:=HC1.out;have o1:=HC2.out;have o2:=HC3.out;have o3:=HCt1.out;have o4:=HCt2.out;have o5:=HCt3.out;have o6:=HCt4.out;have x0:=HXb.out.lt;have x1:=HXz.out.lt;omega)));replace HXz:=Lib.hid (HXz.out.onl hon (by simp only[List.mem_singleton];(have o0:=HC1.out;have o1:=HC2.out;have o2:=HC3.out;have o3:=HCt1.out;have o4:=HCt2.out;have o5:=HCt3.out;have o6:=HCt4.out;have x0:=HXb.out.lt;have x1:=HXz.out.lt;omega)));replace HOn:=Lib.hid (HOn.out.onlB hon HXb.out);have HCt5:Hid (we.heap.size≤wt1.heap.size):=Lib.hid (hon.size);clear hlo hls;replace HXb:=Lib.hid hx;clear hx hon;go_wp2_with (first|(refine wpList_load_bx _ rfl rfl HXb.out (by kernel_rfl) ?_)|(refine wpList_load_o x _ rfl rfl HT.out (by kernel_rfl) ?_))
    have HSX:Hid (({B with ob:=B.ob++[x]}).Sm):=Lib.hid ⟨HSM.out.zs,by show(B.ob++[x]).length≤1000;rw[List.length_append];have:=HBL.out;simp;omega,HSM.out.st,HSM.out.qu,HSM.out.att,HSM.out.bl⟩
    obtain⟨TK,hTK⟩:∃T,T=tkB B p pw tg:=⟨_,rfl⟩
    have HXW:Hid (x.ow=(p:Nat)):=Lib.hid (by rw[HX0.out];rfl)
    have HTE:Hid ((({B with ob:=B.ob++[x]}):Bd).setL p 2 (((({B with ob:=B.ob++[x]}):Bd).seat p).fld++[x.id])=TK):=Lib.hid (by
     rw[hTK,HX0.out,HJE.out,←HBN.out];unfold tkB
     have:p=0∨p=1:=by have:=HPP.out;omega
     rcases this with rfl|rfl<;>rfl)
    have HTQ:=Lib.hid hTK;clear hTK;with_reducible refine(rput2c ({sc with ob:=⟨vq,n4,vr⟩}) ({B with ob:=B.ob++[x]}) x p (wz.heap.size) we.heap.size _ HOn.out (by(have o0:=HC1.out;have o1:=HC2.out;have o2:=HC3.out;have o3:=HCt1.out;have o4:=HCt2.out;have o5:=HCt3.out;have o6:=HCt4.out;have o7:=HCt5.out;have x0:=HXb.out.lt;have x1:=HXz.out.lt;omega)) (by(have o0:=HC1.out;have o1:=HC2.out;have o2:=HC3.out;have o3:=HCt1.out;have o4:=HCt2.out;have o5:=HCt3.out;have o6:=HCt4.out;have o7:=HCt5.out;have x0:=HXb.out.lt;have x1:=HXz.out.lt;omega)) HSX.out HPP.out HXW.out TK HTE.out).mono ?_
    rintro e wt2 ⟨sp,rfl,ho,hb⟩;have HCt6:Hid (wt1.heap.size≤wt2.heap.size):=Lib.hid (hb.size);replace HB:=Lib.hid (below_via HB.out hb);replace HXb:=Lib.hid (HXb.out.below hb);replace HXz:=Lib.hid (HXz.out.below hb);replace HOn:=Lib.hid (HOn.out.below hb);have HOp:=Lib.hid ho;clear ho hb HOn HSX HT;have HRT:Hid (((B.ob.length+1:Nat):Int)=(j:Int)):=Lib.hid (by rw[HBN.out,HJE.out]);clear HX0 HXW HTE;go_wp2_with (first|(refine wpList_store_bh (s:=sp) (B:=TK) rfl _ _ rfl rfl rfl HXz.out rfl ?_;intro wt3 hw9))
    have hg9:Bx wt3 (w.heap.size+1) sp (TK):=by rw[hw9.out];exact Bx.row HXz.out _ _
    have ho9:Onl [w.heap.size+1] wt2 wt3:=by rw[hw9.out];exact Onl.setRow (Onl.refl _ _) (.inl (by simp)) _
    have hlo:w.heap.size≤w.heap.size+1:=by(have o0:=HC1.out;have o1:=HC2.out;have o2:=HC3.out;have o3:=HCt1.out;have o4:=HCt2.out;have o5:=HCt3.out;have o6:=HCt4.out;have o7:=HCt5.out;have o8:=HCt6.out;have x0:=HXb.out.lt;have x1:=HXz.out.lt;omega)
    have hb9:Below w.heap.size w wt3:=belowOnl HB.out ho9 (by simp only[List.mem_singleton,forall_eq];exact hlo) HB.out.size;have HG9:=Lib.hid hg9;have HPOST:Hid (BrA w (tkB B p pw tg) (.int .i64 ((B.ob.length+1:Nat):Int)) (.returned (.tuple #[bv sp (TK),.int .i64 (j:Nat)])) wt3):=Lib.hid (by rw[←HTQ.out,HRT.out];exact⟨_,rfl,(HOp.out.onlB ho9 HXz.out).mono (by(have o0:=HC1.out;have o1:=HC2.out;have o2:=HC3.out;have o3:=HCt1.out;have o4:=HCt2.out;have o5:=HCt3.out;have o6:=HCt4.out;have o7:=HCt5.out;have o8:=HCt6.out;have x0:=HXb.out.lt;have x1:=HXz.out.lt;omega)) (by have h9:=ho9.size;(have o0:=HC1.out;have o1:=HC2.out;have o2:=HC3.out;have o3:=HCt1.out;have o4:=HCt2.out;have o5:=HCt3.out;have o6:=HCt4.out;have o7:=HCt5.out;have o8:=HCt6.out;have x0:=HXb.out.lt;have x1:=HXz.out.lt;omega)),hb9⟩);clear hw9 hg9 ho9 hb9 hlo;go_wp2_with fail
    exact bodyPost_ret (v:= .tuple #[bv sp (TK),.int .i64 (j:Nat)]) (results_b1 Try.results11 _ _ HG9.out rfl rfl) rfl HPOST.out
end Go.Proofs.Ytpbepnpnpopmfaa
