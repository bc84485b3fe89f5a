/- The queue is drained, by the reference. -/
import Derived.Test.YtgkgbpapfjjkcaaTRo
import Derived.Test.YtgkgbpapfjjkcaaTDr
import Derived.Test.YtgkgbpapfjjkcaaBCx
import Derived.Deep.DeepCutAuto
import Derived.LoopTactic
import Derived.Deep.MidRow
namespace Go.Proofs.Ytgkgbpapfjjkcaa
open Go.RowKit Plain
set_option linter.unusedVariables false
set_option linter.unusedSimpArgs false

theorem rg22_7{P:Program}{B n:Nat}{w0:World}{L:List (Nat×Nat×Value)}{E F:World→Prop}{id:Nat}{Q:Exit→Act→World→Prop}{a:Act}{w:World}{A:Array Oper}{o0 o1 o2 o3 o4 o5 o6 o7 o8 o9:Oper}(hm:P.follows .mixedOrders=true)(hA:A=[o0,o1,o2,o3,o4,o5,o6,o7,o8,o9].toArray)(hB:regOk A [1,5] [0,2,3,4,8] (.fs [0,2,3,4] (.rs [1,5] (.alt 6 (.altc 7 (.fs [8] (.altc 9 .done .stop)) .stop) .stop)))=true)(c:RC B w0 n L E F w)
  (h:∀wk,Kept B w0 n L wk→E wk→F wk→wpQuiet P A (fun _=>True) (fun a0=>wpQuiet P A (fun w' =>∃s:KX B w0 n L E,w' =s.val) (fun a1=>((∀K2:Act→World→Prop,(∀a2 w2,((∀K3:Act→World→Prop,(∀a3 w3,wpQuiet P A (fun _=>True) (fun a4=>((∀K5:Act→World→Prop,(∀a5 w5,Q .normal a5 w5→K5 a5 w5)→wpList P A (fun e a5 w5=>e= .normal∧K5 a5 w5) [o9] a4 w3)∧True)) [o8] a3→K3 a3 w3)→wpList P A (fun e a3 w3=>e= .normal∧K3 a3 w3) [o7] a2 w2)∧True)→K2 a2 w2)→wpList P A (fun e a2 w2=>e= .normal∧(∃s:KX B w0 n L E,w2=s.val)∧K2 a2 w2) [o6] a1 wk)∧True)) [o1,o5] a0) [o0,o2,o3,o4] a):(Code.region id A true).wp P Q a w:=by
 subst hA;exact wp_reg _ _ _ hm hB c (fun wk k e f=>have g:=h wk k e f;Scr.of_fs _ _ rfl g fun _ g=>Scr.of_rs _ _ rfl g fun _ g=>(Scr.of_alt rfl (g.1 _ fun _ _ g=>g) (fun _ _ g=>(Scr.of_altc rfl (g.1 _ fun _ _ g=>g) (fun _ _ g=>Scr.of_fs _ _ rfl g fun _ g=>(Scr.of_altc rfl (g.1 _ fun _ _ g=>g) (fun _ _ g=>g) trivial)) trivial)) trivial))
/-- a row of items of our own -/
def LsO(lo hi:Nat)(w:World)(v:Value)(l:List (It×Sl)):Prop:=Ox itc 5 60 lo hi w v l
theorem LsO.below{lo hi:Nat}{w w':World}{v:Value}{l:List (It×Sl)}(h:LsO lo hi w v l)(hb:Below w.heap.size w w'):LsO lo hi w' v l:=Ox.below h hb
theorem LsO.onlB{lo hi:Nat}{w w':World}{v:Value}{l:List (It×Sl)}{g:Nat}{s:Bs}{B:Bd}(h:LsO lo hi w v l)(ho:Onl [g] w w')(hg:Bx w g s B):LsO lo hi w' v l:=Ox.other h (grown_onl ho) (fun b hb=>by cases hb;exact⟨_,hg⟩) (by decide:60≠34) (Nat.le_refl _)
/-- between the items -/
structure RdL(w:World)(y1 y2:Nat)(B:Bd)(lv:Value)(l:List (It×Sl))(i:Value)(wr:World):Prop where
 ex:∃k:Nat,k≤(ordL B).length∧i= .int .i64 k∧VB (drK B k)∧∃s',Bx wr w.heap.size s' (drK B k)∧BdO y2 wr.heap.size wr s' (drK B k)
 hb:Below w.heap.size w wr
 hz:Bx wr (w.heap.size+1) nilS zeroB
 hl:LsO y1 y2 wr lv l
 hy:y2≤wr.heap.size
set_option maxRecDepth 100000 in
set_option maxHeartbeats 4000000 in
theorem rdrain(s:Bs)(B:Bd)(w:World)(h:BdR w s B)(hv:VB B):Calls Try.prog 22 #[bv s B] w (CpA w (drB B)):=by
 have HR:=Lib.hid h;have HV:=Lib.hid hv;have hq1:B.qu.length≤1000:=by have h1:=hv.num;unfold vNum at h1;exact Nat.le_trans h1.2.2.2.2.2.2.2 (by omega)
 have HQ1:=Lib.hid hq1;clear h hv hq1;go_enter Try.func22,Try.ntmps22
 go_upto_region 1 with fail
 change Code.wp Try.prog _ _ _ ((w.alloc (.cells (bcells s B) 34)).alloc (.cells (bcells nilS zeroB) 34))
 obtain⟨wz,hwz⟩:∃W,W=((w.alloc (.cells (bcells s B) 34)).alloc (.cells (bcells nilS zeroB) 34)):=⟨_,rfl⟩
 rw[←hwz];have b0:Below w.heap.size w (w.alloc (.cells (bcells s B) 34)):=by exact(Below.refl _ _).alloc (Nat.le_refl _) _
 have b1:Below (w.alloc (.cells (bcells s B) 34)).heap.size (w.alloc (.cells (bcells s B) 34)) wz:=by rw[hwz];exact(Below.refl _ _).alloc (Nat.le_refl _) _
 have HB:Hid (Below w.heap.size w wz):=Lib.hid (below_via b0 b1);have HXb:Hid (Bx wz (w.heap.size) s B):=Lib.hid ((Ro.new w (bcells s B) 34).below b1:Ro _ _ _ _);have HXz:Hid (Bx wz (w.heap.size+1) nilS zeroB):=Lib.hid (by rw[show w.heap.size+1=(w.alloc (.cells (bcells s B) 34)).heap.size by simp];exact(by rw[hwz];exact(Ro.new (w.alloc (.cells (bcells s B) 34)) (bcells nilS zeroB) 34)));have HC1:Hid (w.heap.size+2≤wz.heap.size):=Lib.hid (by rw[hwz];simp);clear hwz b0 b1;go_wp2_with (first|(refine wpList_load_bx _ rfl rfl HXb.out (by kernel_rfl) ?_))
 with_reducible refine(rorderO s B _ (HR.out.below HB.out) HQ1.out).mono ?_
 rintro e w1 ⟨la,lc,rfl,hl,hb⟩;have HC2:Hid (wz.heap.size≤w1.heap.size):=Lib.hid (hb.size);replace HB:=Lib.hid (below_via HB.out hb);replace HXb:=Lib.hid (HXb.out.below hb);replace HXz:=Lib.hid (HXz.out.below hb)
 obtain⟨l',hl',hlo,hlt⟩:=hl
 have HLE:=Lib.hid hl';have HOl:Hid (LsO wz.heap.size w1.heap.size w1 (.slice la (ordL B).length lc) l'):=Lib.hid (Ox.of hlo)
 have HTG:Hid (∀y∈l',y.1.tg=[]→∃ta tc,y.2=⟨ta,0,tc⟩∧((⟨ta,0,tc⟩:Sl)=nilSl∨∃a c,Value.slice ta 0 tc= .slice (some a) 0 c)):=Lib.hid (fun y hy he=>by
  have hty:=hlt y hy;rw[he] at hty
  rcases hty with⟨_,h1|⟨a,c,h1⟩⟩|⟨h0,_⟩
  ·obtain⟨y1,⟨a,n,c⟩⟩:=y
   simp only[Sl.v,Value.slice.injEq] at h1
   obtain⟨rfl,rfl,rfl⟩:=h1
   exact⟨none,0,rfl,.inl rfl⟩
  ·obtain⟨y1,⟨a',n,c'⟩⟩:=y
   simp only[Sl.v,Value.slice.injEq] at h1
   obtain⟨rfl,rfl,rfl⟩:=h1
   exact⟨some a,c',rfl,.inr ⟨a,c',rfl⟩⟩
  ·exact absurd rfl h0)
 have hn:l'.length=(ordL B).length:=by rw[←hl',List.length_map]
 have HN:=Lib.hid hn
 have hm2:(ordL B).length≤200:=by
  have h1:=HV.out.num;unfold vNum at h1
  rw[ordL_len];exact h1.2.2.2.2.2.2.2
 have HM2:=Lib.hid hm2;clear hb hl' hlo hlt hn hm2;go_wp2_with (first|(refine wpList_load_bx _ rfl rfl HXb.out (by kernel_rfl) ?_))
 with_reducible refine(rcopy s B _ (HR.out.below HB.out) HV.out.sm HV.out.tl).mono ?_
 rintro e w2 ⟨sc,rfl,ho,hb⟩;have HC3:Hid (w1.heap.size≤w2.heap.size):=Lib.hid (hb.size);replace HB:=Lib.hid (below_via HB.out hb);replace HXb:=Lib.hid (HXb.out.below hb);replace HXz:=Lib.hid (HXz.out.below hb);replace HOl:=Lib.hid (HOl.out.below hb);have HOc:=Lib.hid ho;clear ho hb;go_wp2_with (first|(refine wpList_store_bh (s:=sc) (B:=B) rfl _ _ rfl rfl rfl HXb.out rfl ?_))
 intro w3 hw0;have hon:Onl [w.heap.size] w2 w3:=by rw[hw0.out];exact Onl.setRow (Onl.refl _ _) (.inl (by simp)) _
 have hx:Bx w3 (w.heap.size) sc (B):=by rw[hw0.out];exact Bx.row HXb.out _ _
 clear hw0;have hlo:w.heap.size≤w.heap.size:=by(have o0:=HC1.out;have o1:=HC2.out;have o2:=HC3.out;have x0:=HXb.out.lt;have x1:=HXz.out.lt;omega)
 have hls:w.heap.size≤w2.heap.size:=HB.out.size;replace HB:=Lib.hid (belowOnl HB.out hon (by simp only[List.mem_singleton,forall_eq];exact hlo) hls);replace HXz:=Lib.hid (HXz.out.onl hon (by simp only[List.mem_singleton];(have o0:=HC1.out;have o1:=HC2.out;have o2:=HC3.out;have x0:=HXb.out.lt;have x1:=HXz.out.lt;omega)));replace HOl:=Lib.hid (HOl.out.onlB hon HXb.out);replace HOc:=Lib.hid (HOc.out.onlB hon HXb.out);have HC4:Hid (w2.heap.size≤w3.heap.size):=Lib.hid (hon.size);clear hlo hls;replace HXb:=Lib.hid hx;clear hx hon;have c30:w3.cell? ⟨w.heap.size,30,none⟩=some (sc.qu.v):=HXb.out.cell 30;have f30:w3.frozen? ⟨w.heap.size,30,none⟩=false:=HXb.out.free 30
 go_upto_region 4 with fail
 obtain⟨w4,hw⟩:∃X,X=w3.setCell ⟨w.heap.size,30,none⟩ (.slice none 0 0):=⟨_,rfl⟩
 rw[←hw];have hon:Onl [w.heap.size] w3 w4:=by rw[hw];exact Onl.setCell (Onl.refl _ _) (.inl (by simp)) _
 have hx:Bx w4 (w.heap.size) {sc with qu:=nilSl} ((drK B 0)):=by rw[hw];exact HXb.out.put 30 _ rfl
 clear hw c30 f30;have hlo:w.heap.size≤w.heap.size:=by(have o0:=HC1.out;have o1:=HC2.out;have o2:=HC3.out;have o3:=HC4.out;have x0:=HXb.out.lt;have x1:=HXz.out.lt;omega)
 have hls:w.heap.size≤w3.heap.size:=HB.out.size;replace HB:=Lib.hid (belowOnl HB.out hon (by simp only[List.mem_singleton,forall_eq];exact hlo) hls);replace HXz:=Lib.hid (HXz.out.onl hon (by simp only[List.mem_singleton];(have o0:=HC1.out;have o1:=HC2.out;have o2:=HC3.out;have o3:=HC4.out;have x0:=HXb.out.lt;have x1:=HXz.out.lt;omega)));replace HOl:=Lib.hid (HOl.out.onlB hon HXb.out);replace HOc:=Lib.hid (HOc.out.onlB hon HXb.out);have HC5:Hid (w3.heap.size≤w4.heap.size):=Lib.hid (hon.size);clear hlo hls;replace HXb:=Lib.hid hx;clear hx hon
 have HO0:Hid (BdO w1.heap.size w4.heap.size w4 {sc with qu:=nilSl} (drK B 0)):=Lib.hid (by
  rw[drK_zero];exact HOc.out.noQu.mono (by(have o0:=HC1.out;have o1:=HC2.out;have o2:=HC3.out;have o3:=HC4.out;have o4:=HC5.out;have x0:=HXb.out.lt;have x1:=HXz.out.lt;omega)) (by(have o0:=HC1.out;have o1:=HC2.out;have o2:=HC3.out;have o3:=HC4.out;have o4:=HC5.out;have x0:=HXb.out.lt;have x1:=HXz.out.lt;omega)))
 have HNC:Hid (w.heap.size+1+1≤wz.heap.size∧wz.heap.size≤w1.heap.size):=Lib.hid (by(have o0:=HC1.out;have o1:=HC2.out;have o2:=HC3.out;have o3:=HC4.out;have o4:=HC5.out;have x0:=HXb.out.lt;have x1:=HXz.out.lt;constructor<;>omega));have HY0:Hid (w1.heap.size≤w4.heap.size):=Lib.hid (by(have o0:=HC1.out;have o1:=HC2.out;have o2:=HC3.out;have o3:=HC4.out;have o4:=HC5.out;have x0:=HXb.out.lt;have x1:=HXz.out.lt;omega));have HVD:Hid (VB (drK B 0)):=Lib.hid (by rw[drK_zero];exact VB.noQu HV.out);have hm9:(ordL B).length≤9223372036854775807:=by have:=HM2.out;omega
 clear HOc HC1 HC2 HC3 HC4 HC5;go_wp2_with fail
 go_loopw [4] (fun i wr=>RdL w wz.heap.size w1.heap.size B (.slice la (ordL B).length lc) l' i wr) (fun i _=>(ordL B).length-(intOf i).toNat)
 case atStart=>exact⟨⟨0,by omega,rfl,HVD.out,_,HXb.out,HO0.out⟩,HB.out,HXz.out,HOl.out,HY0.out⟩
 case round=>
  obtain⟨⟨k,hk,rfl,hvk,s',hx,ho⟩,hb,hz,hl,hy⟩:=hrel
  replace HB:=Lib.hid hb;replace HXb:=Lib.hid hx;replace HXz:=Lib.hid hz;replace HOl:=Lib.hid hl;have HOk:=Lib.hid ho;have HVK:=Lib.hid hvk;have HY2:=Lib.hid hy;have HNC3:Hid (w.heap.size≤wr.heap.size):=Lib.hid hb.size
  obtain⟨L,hL,hox,hot⟩:=ho.st
  obtain⟨qa,qc,hqv⟩:=hox.1.form
  have hll2:L.length=(drK B k).st.length:=by rw[←hL,List.length_map]
  have hst:(drK B k).st.length≤200:=by have h1:=hvk.num;unfold vNum at h1;exact h1.2.2.2.2.2.2.1
  rw[hqv,hll2] at hox
  rw[hll2] at hqv
  have k29:wr.cell? ⟨w.heap.size,29,none⟩=some (.slice qa (drK B k).st.length qc):=by rw[←hqv];exact hx.cell 29
  have hnc:w.heap.size<wr.heap.size:=hx.lt
  obtain⟨qn,hqn⟩:∃n,n=(drK B k).st.length:=⟨_,rfl⟩
  rw[←hqn] at k29 hqv hox hst hll2
  have HQN:=Lib.hid hqn;have HLQ:=Lib.hid hL;have HLL:=Lib.hid hll2;have HOXQ:=Lib.hid hox;have HOT:=Lib.hid hot;have HQV:=Lib.hid hqv;have HQM:=Lib.hid hst;clear hvk hx ho hb hz hl hy HO0 HVD hL hox hot hqv hll2 hqn hst HY0
  by_cases hkl:k<(ordL B).length
  case neg=>
   obtain rfl:k=(ordL B).length:=by omega
   have t1:decide (((ordL B).length:Int)<((ordL B).length:Int))=false:=decide_eq_false (by omega);have t1':decide ((ordL B).length<(ordL B).length)=false:=decide_eq_false (by omega);have HEQ:=Lib.hid (drK_end (B:=B) (by rw[←HQN.out];exact HQM.out))
   go_upto_region 8 with fail
   clear t1 t1' k29;rw[HEQ.out] at HXb HOk
   go_wp2_with (first|(refine wpList_load_bx _ rfl rfl HXb.out (by kernel_rfl) ?_)|(refine wpList_store_bh (s:=s') (B:=(drB B)) rfl _ _ rfl rfl rfl HXz.out rfl ?_;intro we1 hw9))
   have hg9:Bx we1 (w.heap.size+1) s' ((drB B)):=by rw[hw9.out];exact Bx.row HXz.out _ _
   have ho9:Onl [w.heap.size+1] wr we1:=by rw[hw9.out];exact Onl.setRow (Onl.refl _ _) (.inl (by simp)) _
   have hlo:w.heap.size≤w.heap.size+1:=by(have o0:=HNC.out;have o1:=HNC3.out;have o2:=HY2.out;have x0:=HXb.out.lt;have x1:=HXz.out.lt;omega)
   have hb9:Below w.heap.size w we1:=belowOnl HB.out ho9 (by simp only[List.mem_singleton,forall_eq];exact hlo) HB.out.size;have HG9:=Lib.hid hg9;have HPOST:Hid (CpA w ((drB B)) (.returned (bv s' ((drB B)))) we1):=Lib.hid ⟨_,rfl,(HOk.out.onlB ho9 HXz.out).mono (by(have o0:=HNC.out;have o1:=HNC3.out;have o2:=HY2.out;have x0:=HXb.out.lt;have x1:=HXz.out.lt;omega)) (by have h9:=ho9.size;(have o0:=HNC.out;have o1:=HNC3.out;have o2:=HY2.out;have x0:=HXb.out.lt;have x1:=HXz.out.lt;omega)),hb9⟩;clear hw9 hg9 ho9 hb9 hlo;go_wp2_with fail
   exact bodyPost_ret (v:=bv s' ((drB B))) (results_b0 Try.results22 _ _ HG9.out rfl) rfl HPOST.out
  case pos=>
  have t1:decide ((k:Int)<((ordL B).length:Int))=true:=decide_eq_true (by omega);have t1':decide (k<(ordL B).length)=true:=decide_eq_true hkl
  by_cases hq2:qn<200
  case neg=>
   have q1:decide ((qn:Int)<200)=false:=decide_eq_false (by omega);have q1':decide (qn<200)=false:=decide_eq_false hq2;have HEQ:=Lib.hid (drK_full hk (by have h1:=HQN.out;have h2:=HQM.out;omega))
   go_upto_region 8 with fail
   clear t1 t1' q1 q1' k29;rw[HEQ.out] at HXb HOk
   go_wp2_with (first|(refine wpList_load_bx _ rfl rfl HXb.out (by kernel_rfl) ?_)|(refine wpList_store_bh (s:=s') (B:=(drB B)) rfl _ _ rfl rfl rfl HXz.out rfl ?_;intro we1 hw9))
   have hg9:Bx we1 (w.heap.size+1) s' ((drB B)):=by rw[hw9.out];exact Bx.row HXz.out _ _
   have ho9:Onl [w.heap.size+1] wr we1:=by rw[hw9.out];exact Onl.setRow (Onl.refl _ _) (.inl (by simp)) _
   have hlo:w.heap.size≤w.heap.size+1:=by(have o0:=HNC.out;have o1:=HNC3.out;have o2:=HY2.out;have x0:=HXb.out.lt;have x1:=HXz.out.lt;omega)
   have hb9:Below w.heap.size w we1:=belowOnl HB.out ho9 (by simp only[List.mem_singleton,forall_eq];exact hlo) HB.out.size;have HG9:=Lib.hid hg9;have HPOST:Hid (CpA w ((drB B)) (.returned (bv s' ((drB B)))) we1):=Lib.hid ⟨_,rfl,(HOk.out.onlB ho9 HXz.out).mono (by(have o0:=HNC.out;have o1:=HNC3.out;have o2:=HY2.out;have x0:=HXb.out.lt;have x1:=HXz.out.lt;omega)) (by have h9:=ho9.size;(have o0:=HNC.out;have o1:=HNC3.out;have o2:=HY2.out;have x0:=HXb.out.lt;have x1:=HXz.out.lt;omega)),hb9⟩;clear hw9 hg9 ho9 hb9 hlo;go_wp2_with fail
   exact bodyPost_ret (v:=bv s' ((drB B))) (results_b0 Try.results22 _ _ HG9.out rfl) rfl HPOST.out
  case pos=>
  have q1:decide ((qn:Int)<200)=true:=decide_eq_true (by omega);have q1':decide (qn<200)=true:=decide_eq_true hq2
  obtain⟨y,hy⟩:∃y,l'[k]? =some y:=⟨_,List.getElem?_eq_getElem (by have:=HN.out;omega)⟩
  have hyo:(ordL B)[k]? =some y.1:=by rw[←HLE.out,List.getElem?_map,hy];rfl
  have hyq:itQ y.1:=ordL_Q HV.out y.1 (List.mem_of_getElem? hyo);have htg0:y.1.tg=[]:=hyq.2.2.2.2
  obtain⟨ta,tc,hye,hta⟩:=HTG.out y (List.mem_of_getElem? hy) htg0
  obtain⟨y,sl⟩:=y
  simp only at hye hyo hyq htg0
  subst hye
  obtain⟨g,xcap,hgv,hg1,hg2,hlg⟩:∃g cap,(Value.slice la (ordL B).length lc)= .slice (some ⟨g,0,none⟩) (ordL B).length cap∧wz.heap.size≤g∧g<w1.heap.size∧g<wr.heap.size:=by
   obtain⟨g,c,e,h1,h2,h3⟩:=Ox.pos HOl.out (by have:=HN.out;omega)
   exact⟨g,c,by rw[HN.out] at e;exact e,h1,h2,h3⟩
  simp only[Value.slice.injEq] at hgv
  obtain⟨rfl,hq8,rfl⟩:=hgv
  clear hq8;have hrg:wr.rangeAt g (k*5) (itc (y,(⟨ta,0,tc⟩:Sl))):=Ox.range HOl.out itc_len hy;have e0:wr.cell? ⟨g,k*5,none⟩=some (.int .i64 y.pl):=hrg 0 _ rfl;have e1:wr.cell? ⟨g,k*5+1,none⟩=some (.int .i64 y.id):=hrg 1 _ rfl;have e2:wr.cell? ⟨g,k*5+2,none⟩=some (.int .i64 y.cd):=hrg 2 _ rfl;have e3:wr.cell? ⟨g,k*5+3,none⟩=some (.int .i64 y.tr):=hrg 3 _ rfl;have e4:wr.cell? ⟨g,k*5+4,none⟩=some (.slice ta 0 tc):=hrg 4 _ rfl;have HYO:=Lib.hid hyo;have HYQ:=Lib.hid hyq;have HTA:=Lib.hid hta;have HTG0:=Lib.hid htg0;have HKL:=Lib.hid hkl;have j1:(0:Int)≤(k:Int):=by omega
  have j2:(k:Int)<((ordL B).length:Int):=by omega
  clear hy hyo hyq hta htg0 hrg hg1 hg2
  go_upto_region 7 with fail
  clear q1 q1' t1 t1';refine rg22_7 (w0:=wr) (B:=wr.heap.size) (n:=wr.heap.size) (L:=[]) (by kernel_rfl) rfl (by kernel_rfl) (.t ⟨by go_grown,by go_size,(by simp[go_sem]<;>omega)⟩) (fun w91 K_w91 E_w91 F_w91=> ?_);have _ne:Nonempty (KX (wr.heap.size) wr (wr.heap.size) [] (fun _=>True)):=⟨⟨_,K_w91,E_w91⟩⟩
  repeat (go_big_quiet_step (fail))
  refine wpQuiet_nil ?_;have ra:=rck _ne k29 hnc;have rb0:=rck _ne e0 hlg;have rb1:=rck _ne e1 hlg;have rb2:=rck _ne e2 hlg;have rb3:=rck _ne e3 hlg;have rb4:=rck _ne e4 hlg
  repeat (go_big_quiet_step (fail))
  refine wpQuiet_nil ?_;have KH_w91:=Lib.hid K_w91;have hw_w91:=K_w91.below;have hz_w91:=K_w91.size;clear K_w91;clear E_w91 F_w91
  refine⟨fun K hK0=> ?_,trivial⟩
  have hK:=Lib.hid hK0;clear hK0;go_wp2_with fail
  first|refine⟨rfl,?u,hK.out _ _ ?_⟩|refine⟨?u,hK.out _ _ ?_⟩
  case u=>exact⟨⟨_,KH_w91.out.step (by omega) ((Below.refl _ _).alloc (Nat.le_refl _) _),trivial⟩,rfl⟩
  clear hK K
  refine⟨fun K hK0=> ?_,trivial⟩
  have hK:=Lib.hid hK0;clear hK0;go_wp2_with (at_builtin;refine wpList_append_ow (f:=itc) (sz:=5) rfl _ _ 30 rfl w1.heap.size 60 (.agg #[.int .i64 0,.int .i64 0,.int .i64 0,.int .i64 0,.slice none 0 0]) 56 Try.underlying30 infoX rfl (by decide) _ L rfl (HOXQ.out.1.below (KH_w91.out.below.alloc KH_w91.out.size _)) itc_ok _ [(y,(⟨ta,0,tc⟩:Sl))] rfl (Rw.one2 (f:=itc) (sz:=5) _ 60 (y,(⟨ta,0,tc⟩:Sl)) #[.int .i64 y.pl,.int .i64 y.id,.int .i64 y.cd,.int .i64 y.tr,.slice ta 0 tc] rfl 1 _ rfl) ?c2 ?c3 ?c4 ?_)
  case c2=>have h1:=HLL.out;have h2:=HQM.out;simp only[maxLen];simp;omega
  case c3=>have h1:=HLL.out;have h2:=HQM.out;simp;omega
  case c4=>have h1:=HY2.out;have h2:=KH_w91.out.size;simp;omega
  intro v8 w8 ho8 hg8 hv8
  obtain⟨va,vc,rfl⟩:=ho8.form
  obtain⟨n1,hn1⟩:∃n1,n1=(L++[(y,(⟨ta,0,tc⟩:Sl))]).length:=⟨_,rfl⟩
  rw[←hn1] at ho8 hv8 ⊢
  have hgz:wr.grownBy w8 (Value.slice qa qn qc).ownBlock:=grown_trans (grown_below (KH_w91.out.below.alloc KH_w91.out.size _)) hg8;have hrow:∀q,(Value.slice qa qn qc).ownBlock=some q→w1.heap.size≤q∧q<wr.heap.size:=fun q hq=>⟨(HOXQ.out.blk hq).1,(HOXQ.out.blk hq).2.1⟩
  have hrt:=(HOXQ.out).1.typ
  have hbt:∀(P:Nat) (S:Bs) (D:Bd),Bx wr P S D→Bx w8 P S D:=fun P S D h=>h.grown hgz (fun e=>by
   obtain⟨_,_,cur,h1⟩:=hrt P e
   have h2:wr.heap[P]? =some (.cells (bcells S D) 34 (0,0)):=h;rw[h1] at h2
   simp at h2)
  have hxb:=hbt _ _ _ HXb.out;have hxz:=hbt _ _ _ HXz.out;have hb8:Below w.heap.size w w8:=HB.out.grown hgz HB.out.size (fun q hq=>by have h1:=(hrow _ hq).1;(have o0:=HNC.out;have o1:=HNC3.out;have o2:=HY2.out;have x0:=HXb.out.lt;have x1:=HXz.out.lt;omega))
  have hq8:ItO w1.heap.size w8.heap.size w8 (.slice va n1 vc) ((drK B k).st++[y]):=ItO.grew (m:=[(y,(⟨ta,0,tc⟩:Sl))]) HLQ.out HOXQ.out HOT.out ho8 hgz (fun x hx=>by
   have e:=List.mem_singleton.1 hx;subst e
   exact⟨HTA.out,HTG0.out⟩) hgz.size
  have ho2:=HOk.out.newSt (Nat.le_refl _) ⟨va,n1,vc⟩ _ (by rw[HQV.out];exact hgz) hq8 (by
   rw[HQV.out];rcases hv8 with h1|h1
   ·exact .inl h1
   ·exact .inr ⟨_,h1,by have h2:=KH_w91.out.size;simp;omega⟩)
  have hls:LsO wz.heap.size w1.heap.size w8 (.slice (some ⟨g,0,none⟩) (ordL B).length lc) l':=Ox.keep HOl.out (fun q a b hq=>hgz.block q (Ox.blk HOl.out hq).2.2 (fun e=>by have h1:=(hrow q e.symm).1;omega));have heq:({drK B k with st:=(drK B k).st++[y]}:Bd)=drK B (k+1):=drK_next HYO.out;rw[heq] at ho2
  have HEQ:=Lib.hid heq;replace HOl:=Lib.hid hls;replace HOk:=Lib.hid ho2;replace HB:=Lib.hid hb8;replace HXb:=Lib.hid hxb;replace HXz:=Lib.hid hxz;have HCz:Hid (wr.heap.size≤w8.heap.size):=Lib.hid hgz.size;have d29:w8.cell? ⟨w.heap.size,29,none⟩=some (s'.st.v):=hxb.cell 29;have f29:w8.frozen? ⟨w.heap.size,29,none⟩=false:=hxb.free 29;have HVN:Hid (VB (drK B (k+1))):=Lib.hid (by rw[←drK_next HYO.out];exact VB.pu HVK.out HYQ.out (by rw[←HQN.out];exact hq2));clear ho8 hg8 hv8 hrow hrt hbt hxb hxz hb8 hq8 ho2 HOT hn1 hls HOXQ hgz k29 e0 e1 e2 e3 e4 heq;go_wp2_with fail
  first|refine⟨rfl,hK.out _ _ ?_⟩|refine hK.out _ _ ?_
  clear hK K
  repeat (go_big_quiet_step (fail))
  refine wpQuiet_nil ?_
  refine⟨fun K hK0=> ?_,trivial⟩
  have hK:=Lib.hid hK0;clear hK0;go_wp2_with fail
  first|refine⟨rfl,hK.out _ _ ?_⟩|refine hK.out _ _ ?_
  clear hK K;clear ra rb0 rb1 rb2 rb3 rb4;clear _ne
  obtain⟨w9,hw⟩:∃X,X=w8.setCell ⟨w.heap.size,29,none⟩ (.slice va n1 vc):=⟨_,rfl⟩
  rw[←hw];have hon:Onl [w.heap.size] w8 w9:=by rw[hw];exact Onl.setCell (Onl.refl _ _) (.inl (by simp)) _
  have hx:Bx w9 w.heap.size ({s' with st:=⟨va,n1,vc⟩}) (drK B (k+1)):=by rw[←HEQ.out,hw];exact HXb.out.put 29 _ rfl
  clear hw d29 f29;have hlo:w.heap.size≤w.heap.size:=by(have o0:=HNC.out;have o1:=HNC3.out;have o2:=HY2.out;have o3:=HCz.out;have x0:=HXb.out.lt;have x1:=HXz.out.lt;omega)
  have hls:w.heap.size≤w8.heap.size:=HB.out.size;replace HB:=Lib.hid (belowOnl HB.out hon (by simp only[List.mem_singleton,forall_eq];exact hlo) hls);replace HXz:=Lib.hid (HXz.out.onl hon (by simp only[List.mem_singleton];(have o0:=HNC.out;have o1:=HNC3.out;have o2:=HY2.out;have o3:=HCz.out;have x0:=HXb.out.lt;have x1:=HXz.out.lt;omega)));replace HOk:=Lib.hid (HOk.out.onlB hon HXb.out);replace HOl:=Lib.hid (HOl.out.onlB hon HXb.out);have HCr1:Hid (w8.heap.size≤w9.heap.size):=Lib.hid (hon.size);clear hlo hls;replace HXb:=Lib.hid hx;clear hx hon;have HON:Hid (BdO w1.heap.size w9.heap.size w9 ({s' with st:=⟨va,n1,vc⟩}) (drK B (k+1))):=Lib.hid (HOk.out.mono (Nat.le_refl _) (by(have o0:=HNC.out;have o1:=HNC3.out;have o2:=HY2.out;have o3:=HCz.out;have o4:=HCr1.out;have x0:=HXb.out.lt;have x1:=HXz.out.lt;omega)));have HY3:Hid (w1.heap.size≤w9.heap.size):=Lib.hid (by(have o0:=HNC.out;have o1:=HNC3.out;have o2:=HY2.out;have o3:=HCz.out;have o4:=HCr1.out;have x0:=HXb.out.lt;have x1:=HXz.out.lt;omega));have hkl:=HKL.out;go_wp2_with fail
  go_roundw
  case rel=>exact⟨⟨k+1,by omega,by go_num,HVN.out,_,HXb.out,HON.out⟩,HB.out,HXz.out,HOl.out,HY3.out⟩
  case measure=>simp[intOf];omega
end Go.Proofs.Ytgkgbpapfjjkcaa
