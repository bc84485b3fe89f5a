/- The queue is drained, by the code. -/
import Derived.Test.YtgkgbpapfjjkcaaTPu
import Derived.Deep.DeepCutAuto
import Derived.LoopTactic
import Derived.Deep.MidRow
namespace Go.Proofs.Ytgkgbpapfjjkcaa
open Go.RowKit Plain
set_option linter.unusedVariables false
set_option linter.unusedSimpArgs false

/-- the board with k items of the queue on the stack, and no queue -/
def Plain.drK(B:Bd)(k:Nat):Bd:={B with qu:=[],st:=B.st++(ordL B).take k}
/-- the drained board -/
def Plain.drB(B:Bd):Bd:={B with qu:=[],st:=(B.st++ordL B).take 200}
theorem VB.noQu{B:Bd}(h:VB B):VB {B with qu:=[]}:=by
 refine⟨?_,h.se0,h.se1,⟨h.its.1,rfl⟩,⟨h.plc.nd,h.plc.ob,h.plc.len⟩,⟨h.fgt.nd,h.fgt.own,h.fgt.na,h.fgt.nb,h.fgt.bl⟩⟩
 have hn:=h.num;unfold vNum at hn ⊢
 exact⟨hn.1,hn.2.1,hn.2.2.1,hn.2.2.2.1,hn.2.2.2.2.1,hn.2.2.2.2.2.1,hn.2.2.2.2.2.2.1,Nat.zero_le _⟩
theorem ordL_Q{B:Bd}(h:VB B):∀x∈ordL B,itQ x:=fun x hx=>itQ_of (List.all_eq_true.1 h.its.2 x (ordL_mem hx))
theorem drK_zero(B:Bd):drK B 0={B with qu:=[]}:=by unfold drK;simp
theorem drK_next{B:Bd}{k:Nat}{x:It}(hx:(ordL B)[k]? =some x):puB (drK B k) x=drK B (k+1):=by
 unfold drK puB;rw[List.take_add_one,hx]
 simp
theorem drK_end{B:Bd}(hl:(drK B (ordL B).length).st.length≤200):drK B (ordL B).length=drB B:=by
 unfold drK drB at*
 simp only[List.take_length] at*
 rw[List.take_of_length_le hl]
theorem drK_full{B:Bd}{k:Nat}(hk:k≤(ordL B).length)(hl:(drK B k).st.length=200):drK B k=drB B:=by
 unfold drK drB at*
 simp only at*
 have h1:(B.st++ordL B).take 200=B.st++(ordL B).take k:=by
  rw[←hl,List.length_append,List.length_take,List.take_append,List.take_of_length_le (by omega)]
  congr 2
  omega
 rw[h1]
theorem push_okv(s:Bs)(B:Bd)(y:It×Sl)(ta:Option Addr)(tc:Nat)(w:World)(h:BdR w s B)(hv:VB B)(hx:itQ y.1)(hl:B.st.length<200)(hy:y.2=⟨ta,0,tc⟩)(hta:(⟨ta,0,tc⟩:Sl)=nilSl∨∃a c,Value.slice ta 0 tc= .slice (some a) 0 c):Calls Try.prog 48 #[bv s B,.agg (itc y).toArray] w (BrA w (puB B y.1) (.int .i64 0)):=by
 obtain⟨x,sl⟩:=y
 subst hy;exact push_ok s B x ta tc w h hv.i hv.sm hv hx hv.tl hl hta
theorem push_fullv(s:Bs)(B:Bd)(y:It×Sl)(ta:Option Addr)(tc:Nat)(w:World)(h:BdR w s B)(hv:VB B)(hx:itQ y.1)(hl:200≤B.st.length)(hy:y.2=⟨ta,0,tc⟩):Calls Try.prog 48 #[bv s B,.agg (itc y).toArray] w (BrA w zeroB (.int .i64 7)):=by
 obtain⟨x,sl⟩:=y
 subst hy;exact push_full s B x ta tc w h hv.i hv.sm hv hx hl
/-- between the items -/
structure DrL(w wo:World)(nc:Nat)(B:Bd)(i:Value)(wr:World):Prop where
 ex:∃k:Nat,k≤(ordL B).length∧i= .int .i64 k∧VB (drK B k)∧∃s',Bx wr nc s' (drK B k)∧BdO w.heap.size wr.heap.size wr s' (drK B k)
 hb:Below w.heap.size w wr
 ho:Below wo.heap.size wo wr
 hz:Bx wr (w.heap.size+1) nilS zeroB
set_option maxRecDepth 100000 in
set_option maxHeartbeats 4000000 in
theorem drain_bad(s:Bs)(B:Bd)(w:World)(h:BdR w s B)(hi:B.I)(hsm:B.Sm)(hv:¬VB B):Calls Try.prog 20 #[bv s B] w (BrA w zeroB (.int .i64 2)):=by
 have HR:=Lib.hid h;have HV:=Lib.hid hv;have HI:=Lib.hid hi;have HSM:=Lib.hid hsm;clear h hv hi hsm;go_enter Try.func20,Try.ntmps20
 go_upto_region 1 with fail
 change Code.wp Try.prog _ _ _ ((w.alloc (.cells (bcells s B) 34)).alloc (.cells (bcells nilS zeroB) 34))
 obtain⟨wz,hwz⟩:∃W,W=((w.alloc (.cells (bcells s B) 34)).alloc (.cells (bcells nilS zeroB) 34)):=⟨_,rfl⟩
 rw[←hwz];have b0:Below w.heap.size w (w.alloc (.cells (bcells s B) 34)):=by exact(Below.refl _ _).alloc (Nat.le_refl _) _
 have b1:Below (w.alloc (.cells (bcells s B) 34)).heap.size (w.alloc (.cells (bcells s B) 34)) wz:=by rw[hwz];exact(Below.refl _ _).alloc (Nat.le_refl _) _
 have HB:Hid (Below w.heap.size w wz):=Lib.hid (below_via b0 b1);have HXb:Hid (Bx wz (w.heap.size) s B):=Lib.hid ((Ro.new w (bcells s B) 34).below b1:Ro _ _ _ _);have HXz:Hid (Bx wz (w.heap.size+1) nilS zeroB):=Lib.hid (by rw[show w.heap.size+1=(w.alloc (.cells (bcells s B) 34)).heap.size by simp];exact(by rw[hwz];exact(Ro.new (w.alloc (.cells (bcells s B) 34)) (bcells nilS zeroB) 34)));have HC1:Hid (w.heap.size+2≤wz.heap.size):=Lib.hid (by rw[hwz];simp);clear hwz b0 b1;go_wp2_with (first|(refine wpList_load_bx _ rfl rfl HXb.out (by kernel_rfl) ?_))
 with_reducible refine(order_bad s B _ (HR.out.below HB.out) HI.out HSM.out HV.out).mono ?_
 rintro e w1 ⟨la,lc,rfl,hl,hb⟩;have HC2:Hid (wz.heap.size≤w1.heap.size):=Lib.hid (hb.size);replace HB:=Lib.hid (below_via HB.out hb);replace HXb:=Lib.hid (HXb.out.below hb);replace HXz:=Lib.hid (HXz.out.below hb);clear hb hl;go_wp2_with (first|(refine wpList_load_bx _ rfl rfl HXb.out (by kernel_rfl) ?_))
 with_reducible refine(bvalid s (B) _ (HR.out.below HB.out) HI.out HSM.out).mono ?_
 rintro e w2 ⟨⟨r,rfl,hr⟩,hb⟩;have HC3:Hid (w1.heap.size≤w2.heap.size):=Lib.hid (hb.size);replace HB:=Lib.hid (below_via HB.out hb);replace HXb:=Lib.hid (HXb.out.below hb);replace HXz:=Lib.hid (HXz.out.below hb);obtain rfl:r=false:=by cases r with|false=>rfl|true=>exact absurd (hr.1 rfl) HV.out
 clear hr hb
 go_upto_region 3 with fail
 go_wp2_with (first|(refine wpList_store_bh (s:=nilS) (B:=zeroB) rfl _ _ rfl rfl rfl HXz.out rfl ?_;intro w3 hw9))
 have hg9:Bx w3 (w.heap.size+1) nilS (zeroB):=by rw[hw9.out];exact Bx.row HXz.out _ _
 have ho9:Onl [w.heap.size+1] w2 w3:=by rw[hw9.out];exact Onl.setRow (Onl.refl _ _) (.inl (by simp)) _
 have hlo:w.heap.size≤w.heap.size+1:=by(have o0:=HC1.out;have o1:=HC2.out;have o2:=HC3.out;have x0:=HXb.out.lt;have x1:=HXz.out.lt;omega)
 have hb9:Below w.heap.size w w3:=belowOnl HB.out ho9 (by simp only[List.mem_singleton,forall_eq];exact hlo) HB.out.size;have HG9:=Lib.hid hg9;have HPOST:Hid (BrA w (zeroB) (.int .i64 2) (.returned (.tuple #[bv nilS (zeroB),.int .i64 2])) w3):=Lib.hid ⟨_,rfl,zeroOwn _ _ _,hb9⟩;clear hw9 hg9 ho9 hb9 hlo;go_wp2_with fail
 exact bodyPost_ret (v:= .tuple #[bv nilS (zeroB),.int .i64 2]) (results_b1 Try.results20 _ _ HG9.out rfl rfl) rfl HPOST.out
set_option maxRecDepth 100000 in
set_option maxHeartbeats 4000000 in
theorem drain_ok(s:Bs)(B:Bd)(w:World)(h:BdR w s B)(hv:VB B):Calls Try.prog 20 #[bv s B] w (BrA w (drB B) (.int .i64 0)):=by
 have HR:=Lib.hid h;have HV:=Lib.hid hv;clear h hv;go_enter Try.func20,Try.ntmps20
 go_upto_region 1 with fail
 change Code.wp Try.prog _ _ _ ((w.alloc (.cells (bcells s B) 34)).alloc (.cells (bcells nilS zeroB) 34))
 obtain⟨wz,hwz⟩:∃W,W=((w.alloc (.cells (bcells s B) 34)).alloc (.cells (bcells nilS zeroB) 34)):=⟨_,rfl⟩
 rw[←hwz];have b0:Below w.heap.size w (w.alloc (.cells (bcells s B) 34)):=by exact(Below.refl _ _).alloc (Nat.le_refl _) _
 have b1:Below (w.alloc (.cells (bcells s B) 34)).heap.size (w.alloc (.cells (bcells s B) 34)) wz:=by rw[hwz];exact(Below.refl _ _).alloc (Nat.le_refl _) _
 have HB:Hid (Below w.heap.size w wz):=Lib.hid (below_via b0 b1);have HXb:Hid (Bx wz (w.heap.size) s B):=Lib.hid ((Ro.new w (bcells s B) 34).below b1:Ro _ _ _ _);have HXz:Hid (Bx wz (w.heap.size+1) nilS zeroB):=Lib.hid (by rw[show w.heap.size+1=(w.alloc (.cells (bcells s B) 34)).heap.size by simp];exact(by rw[hwz];exact(Ro.new (w.alloc (.cells (bcells s B) 34)) (bcells nilS zeroB) 34)));have HC1:Hid (w.heap.size+2≤wz.heap.size):=Lib.hid (by rw[hwz];simp);clear hwz b0 b1;go_wp2_with (first|(refine wpList_load_bx _ rfl rfl HXb.out (by kernel_rfl) ?_))
 with_reducible refine(order_ok s B _ (HR.out.below HB.out) HV.out.i HV.out.sm HV.out.tl HV.out).mono ?_
 rintro e w1 ⟨la,lc,rfl,hl,hb⟩;have HC2:Hid (wz.heap.size≤w1.heap.size):=Lib.hid (hb.size);replace HB:=Lib.hid (below_via HB.out hb);replace HXb:=Lib.hid (HXb.out.below hb);replace HXz:=Lib.hid (HXz.out.below hb);have HBO:Hid (Below w1.heap.size w1 w1):=Lib.hid (Below.refl _ _)
 obtain⟨l',hl',hlr,hlt⟩:=hl
 have HLE:=Lib.hid hl';have HLR:=Lib.hid hlr;have HLT:=Lib.hid hlt;have hn:l'.length=(ordL B).length:=by rw[←hl',List.length_map]
 have HN:=Lib.hid hn
 have hm2:(ordL B).length≤200:=by
  have h1:=HV.out.num;unfold vNum at h1
  rw[ordL_len];exact h1.2.2.2.2.2.2.2
 have HM2:=Lib.hid hm2;clear hb hl' hlr hlt hn;go_wp2_with (first|(refine wpList_load_bx _ rfl rfl HXb.out (by kernel_rfl) ?_))
 with_reducible refine(bvalid s (B) _ (HR.out.below HB.out) HV.out.i HV.out.sm).mono ?_
 rintro e w2 ⟨⟨r,rfl,hr⟩,hb⟩;have HC3:Hid (w1.heap.size≤w2.heap.size):=Lib.hid (hb.size);replace HB:=Lib.hid (below_via HB.out hb);replace HXb:=Lib.hid (HXb.out.below hb);replace HXz:=Lib.hid (HXz.out.below hb);replace HBO:=Lib.hid (below_via HBO.out hb);obtain rfl:r=true:=hr.2 HV.out;clear hr hb;go_wp2_with (first|(refine wpList_load_bx _ rfl rfl HXb.out (by kernel_rfl) ?_))
 with_reducible refine(bcopy s B _ (HR.out.below HB.out) HV.out.sm HV.out.tl).mono ?_
 rintro e w3 ⟨sc,rfl,ho,hb⟩;have HC4:Hid (w2.heap.size≤w3.heap.size):=Lib.hid (hb.size);replace HB:=Lib.hid (below_via HB.out hb);replace HXb:=Lib.hid (HXb.out.below hb);replace HXz:=Lib.hid (HXz.out.below hb);replace HBO:=Lib.hid (below_via HBO.out hb);have HOc:=Lib.hid ho;clear ho hb;go_wp2_with (first|(refine wpList_store_bh rfl _ _ rfl rfl rfl (heap_alloc_new _ _) rfl ?_))
 intro w4 hw0;have hbx:=boxed hw0.out
 obtain⟨nc,hn⟩:∃n,n=w3.heap.size:=⟨_,rfl⟩
 rw[←hn] at hbx ⊢
 have hb:=hbx.1;rw[hn] at hb
 clear hw0;replace HB:=Lib.hid (below_via HB.out hb);replace HXb:=Lib.hid (HXb.out.below hb);replace HXz:=Lib.hid (HXz.out.below hb);replace HOc:=Lib.hid (HOc.out.below hb);replace HBO:=Lib.hid (below_via HBO.out hb);have HXc:Hid (Bx w4 nc sc (B)):=Lib.hid hbx.2;have HC5:Hid (w3.heap.size≤nc∧nc<w4.heap.size):=Lib.hid (⟨by omega,hbx.2.lt⟩);clear hbx hn hb;have c30:w4.cell? ⟨nc,30,none⟩=some (sc.qu.v):=HXc.out.cell 30;have f30:w4.frozen? ⟨nc,30,none⟩=false:=HXc.out.free 30
 go_upto_region 6 with fail
 obtain⟨w5,hw⟩:∃X,X=w4.setCell ⟨nc,30,none⟩ (.slice none 0 0):=⟨_,rfl⟩
 rw[←hw];have hon:Onl [nc] w4 w5:=by rw[hw];exact Onl.setCell (Onl.refl _ _) (.inl (by simp)) _
 have hx:Bx w5 (nc) {sc with qu:=nilSl} ((drK B 0)):=by rw[hw];exact HXc.out.put 30 _ rfl
 clear hw c30 f30;have hlo:w.heap.size≤nc:=by(have o0:=HC1.out;have o1:=HC2.out;have o2:=HC3.out;have o3:=HC4.out;have o4:=HC5.out;have x0:=HXb.out.lt;have x1:=HXz.out.lt;have x2:=HXc.out.lt;omega)
 have hls:w.heap.size≤w4.heap.size:=HB.out.size;replace HB:=Lib.hid (belowOnl HB.out hon (by simp only[List.mem_singleton,forall_eq];exact hlo) hls);replace HBO:=Lib.hid (belowOnl HBO.out hon (by simp only[List.mem_singleton,forall_eq];(have o0:=HC1.out;have o1:=HC2.out;have o2:=HC3.out;have o3:=HC4.out;have o4:=HC5.out;have x0:=HXb.out.lt;have x1:=HXz.out.lt;have x2:=HXc.out.lt;omega)) HBO.out.size);replace HXb:=Lib.hid (HXb.out.onl hon (by simp only[List.mem_singleton];(have o0:=HC1.out;have o1:=HC2.out;have o2:=HC3.out;have o3:=HC4.out;have o4:=HC5.out;have x0:=HXb.out.lt;have x1:=HXz.out.lt;have x2:=HXc.out.lt;omega)));replace HXz:=Lib.hid (HXz.out.onl hon (by simp only[List.mem_singleton];(have o0:=HC1.out;have o1:=HC2.out;have o2:=HC3.out;have o3:=HC4.out;have o4:=HC5.out;have x0:=HXb.out.lt;have x1:=HXz.out.lt;have x2:=HXc.out.lt;omega)));replace HOc:=Lib.hid (HOc.out.onlB hon HXc.out);have HC6:Hid (w4.heap.size≤w5.heap.size):=Lib.hid (hon.size);clear hlo hls;replace HXc:=Lib.hid hx;clear hx hon
 have HO0:Hid (BdO w.heap.size w5.heap.size w5 {sc with qu:=nilSl} (drK B 0)):=Lib.hid (by
  rw[drK_zero];exact HOc.out.noQu.mono (by(have o0:=HC1.out;have o1:=HC2.out;have o2:=HC3.out;have o3:=HC4.out;have o4:=HC5.out;have o5:=HC6.out;have x0:=HXb.out.lt;have x1:=HXz.out.lt;have x2:=HXc.out.lt;omega)) (by(have o0:=HC1.out;have o1:=HC2.out;have o2:=HC3.out;have o3:=HC4.out;have o4:=HC5.out;have o5:=HC6.out;have x0:=HXb.out.lt;have x1:=HXz.out.lt;have x2:=HXc.out.lt;omega)))
 have HNC:Hid (w1.heap.size≤nc∧w.heap.size+1+1≤w1.heap.size):=Lib.hid (by(have o0:=HC1.out;have o1:=HC2.out;have o2:=HC3.out;have o3:=HC4.out;have o4:=HC5.out;have o5:=HC6.out;have x0:=HXb.out.lt;have x1:=HXz.out.lt;have x2:=HXc.out.lt;constructor<;>omega));have HVD:Hid (VB (drK B 0)):=Lib.hid (by rw[drK_zero];exact VB.noQu HV.out);have hm9:(ordL B).length≤9223372036854775807:=by omega
 clear HOc HC1 HC2 HC3 HC4 HC5 HC6 HXb
 obtain⟨_,lb,lcc,hlv,hlf⟩:=HLR.out.form
 simp only[Value.slice.injEq] at hlv
 have HLF:=Lib.hid hlf
 obtain⟨rfl,hq9,rfl⟩:=hlv
 clear hlf hq9;go_wp2_with fail
 go_loopw [21] (fun i wr=>DrL w w1 nc B i wr) (fun i _=>(ordL B).length-(intOf i).toNat)
 case atStart=>exact⟨⟨0,by omega,rfl,HVD.out,_,HXc.out,HO0.out⟩,HB.out,HBO.out,HXz.out⟩
 case round=>
  obtain⟨⟨k,hk,rfl,hvk,s',hx,ho⟩,hb,hbo,hz⟩:=hrel
  replace HB:=Lib.hid hb;replace HBO:=Lib.hid hbo;replace HXc:=Lib.hid hx;replace HXz:=Lib.hid hz;have HOk:=Lib.hid ho;have HVK:=Lib.hid hvk;have HNC2:Hid (nc<wr.heap.size):=Lib.hid hx.lt;have HNC3:Hid (w.heap.size≤wr.heap.size):=Lib.hid hb.size;clear hvk hx ho hb hbo hz HO0 HVD;have hst:(drK B k).st.length≤200:=by have h1:=HVK.out.num;unfold vNum at h1;exact h1.2.2.2.2.2.2.1
  by_cases hkl:k<(ordL B).length
  case neg=>
   obtain rfl:k=(ordL B).length:=by omega
   have HEQ:=Lib.hid (drK_end hst);clear hst;rw[HEQ.out] at HXc HOk
   go_wp2_with (first|(refine wpList_load_bx _ rfl rfl HXc.out (by kernel_rfl) ?_)|(refine wpList_store_bh (s:=s') (B:=(drB B)) rfl _ _ rfl rfl rfl HXz.out rfl ?_;intro we1 hw9))
   have hg9:Bx we1 (w.heap.size+1) s' ((drB B)):=by rw[hw9.out];exact Bx.row HXz.out _ _
   have ho9:Onl [w.heap.size+1] wr we1:=by rw[hw9.out];exact Onl.setRow (Onl.refl _ _) (.inl (by simp)) _
   have hlo:w.heap.size≤w.heap.size+1:=by(have o0:=HNC.out;have o1:=HNC2.out;have o2:=HNC3.out;have x0:=HXc.out.lt;have x1:=HXz.out.lt;omega)
   have hb9:Below w.heap.size w we1:=belowOnl HB.out ho9 (by simp only[List.mem_singleton,forall_eq];exact hlo) HB.out.size;have HG9:=Lib.hid hg9;have HPOST:Hid (BrA w ((drB B)) (.int .i64 0) (.returned (.tuple #[bv s' ((drB B)),.int .i64 0])) we1):=Lib.hid ⟨_,rfl,(HOk.out.onlB ho9 HXz.out).mono (by(have o0:=HNC.out;have o1:=HNC2.out;have o2:=HNC3.out;have x0:=HXc.out.lt;have x1:=HXz.out.lt;omega)) (by have h9:=ho9.size;(have o0:=HNC.out;have o1:=HNC2.out;have o2:=HNC3.out;have x0:=HXc.out.lt;have x1:=HXz.out.lt;omega)),hb9⟩;clear hw9 hg9 ho9 hb9 hlo;go_wp2_with fail
   exact bodyPost_ret (v:= .tuple #[bv s' ((drB B)),.int .i64 0]) (results_b1 Try.results20 _ _ HG9.out rfl rfl) rfl HPOST.out
  case pos=>
  obtain⟨y,hy⟩:∃y,l'[k]? =some y:=⟨_,List.getElem?_eq_getElem (by have:=HN.out;omega)⟩
  have hyo:(ordL B)[k]? =some y.1:=by rw[←HLE.out,List.getElem?_map,hy];rfl
  have hyq:itQ y.1:=ordL_Q HV.out y.1 (List.mem_of_getElem? hyo)
  obtain⟨b,off,rfl,hlb,hc⟩:=HLF.out (by have:=HN.out;omega)
  have hrg:wr.rangeAt b (off+k*5) (itc y):=fun j u hu=>by rw[Nat.add_assoc];exact(HBO.out.cell (p:=⟨b,_,none⟩) hlb).trans (hc k y hy j u hu)
  have hty:=HLT.out y (List.mem_of_getElem? hy);rw[hyq.2.2.2.2] at hty
  obtain⟨ta,tc,hye,hta⟩:∃ta tc,y.2=⟨ta,0,tc⟩∧((⟨ta,0,tc⟩:Sl)=nilSl∨∃a c,Value.slice ta 0 tc= .slice (some a) 0 c):=by
   rcases hty with⟨_,h1|⟨a,c,h1⟩⟩|⟨h0,_⟩
   ·obtain⟨y1,⟨a,n,c⟩⟩:=y
    simp only[Sl.v,Value.slice.injEq] at h1
    obtain⟨rfl,rfl,rfl⟩:=h1
    exact⟨none,0,rfl,.inl rfl⟩
   ·obtain⟨y1,⟨a',n,c'⟩⟩:=y
    simp only[Sl.v,Value.slice.injEq] at h1
    obtain⟨rfl,rfl,rfl⟩:=h1
    exact⟨some a,c',rfl,.inr ⟨a,c',rfl⟩⟩
   ·exact absurd rfl h0
  have HRG:=Lib.hid hrg;have HYO:=Lib.hid hyo;have HYQ:=Lib.hid hyq;have HYE:=Lib.hid hye;have HTA:=Lib.hid hta;have i1:(0:Int)≤(k:Int):=by omega
  have i2:(k:Int)<((ordL B).length:Int):=by omega
  clear hc hrg hy hyo hyq hty hye hta hlb;go_wp2_with (first|(refine wpList_store_rh rfl 60 ((itc y).toArray) _ _ rfl rfl rfl (Ro.new _ _ _) rfl rfl (arr_one (itc_ok y).2) ?_)|(refine wpList_load_mid rfl 60 _ rfl b (off+k*5) rfl (itc y) _ HRG.out Try.underlying60 rfl rfl ?_))
  intro wx1 hw0;have hbx:=boxed_r hw0.out
  obtain⟨nt,hn⟩:∃n,n=wr.heap.size:=⟨_,rfl⟩
  rw[←hn] at hbx ⊢
  have hb:=hbx.1;rw[hn] at hb
  clear hw0;replace HB:=Lib.hid (below_via HB.out hb);replace HXc:=Lib.hid (HXc.out.below hb);replace HXz:=Lib.hid (HXz.out.below hb);replace HOk:=Lib.hid (HOk.out.below hb);replace HBO:=Lib.hid (below_via HBO.out hb);have HXt:Hid (Ro wx1 nt ((itc y).toArray) 60):=Lib.hid hbx.2;have HCx1:Hid (wr.heap.size≤nt∧nt<wx1.heap.size):=Lib.hid (⟨by omega,hbx.2.lt⟩);clear hbx hn hb;clear i1 i2 HRG
  by_cases hs2:(drK B k).st.length<200
  case neg=>
   have HFU:=Lib.hid (drK_full hk (by omega));have hge:200≤(drK B k).st.length:=by omega
   have HGE:=Lib.hid hge;clear hs2 hst hge;go_wp2_with (first|(refine wpList_load_bx _ rfl rfl HXc.out (by kernel_rfl) ?_)|(refine wpList_load_ro rfl 60 (itc y).toArray _ rfl rfl HXt.out Try.underlying60 rfl rfl ?_))
   with_reducible refine(push_fullv s' (drK B k) y ta tc _ HOk.out.rd HVK.out HYQ.out HGE.out HYE.out).mono ?_
   rintro e wx2 ⟨sn,rfl,ho,hb⟩;have HCx2:Hid (wx1.heap.size≤wx2.heap.size):=Lib.hid (hb.size);replace HB:=Lib.hid (below_via HB.out hb);replace HXc:=Lib.hid (HXc.out.below hb);replace HXz:=Lib.hid (HXz.out.below hb);replace HXt:=Lib.hid (HXt.out.below hb);replace HOk:=Lib.hid (HOk.out.below hb);replace HBO:=Lib.hid (below_via HBO.out hb);have HOn:=Lib.hid ho;clear ho hb;go_wp2_with (first|(refine wpList_store_bh rfl _ _ rfl rfl rfl (heap_alloc_new _ _) rfl ?_))
   intro wx3 hw0;have hbx:=boxed hw0.out
   obtain⟨nn,hn⟩:∃n,n=wx2.heap.size:=⟨_,rfl⟩
   rw[←hn] at hbx ⊢
   have hb:=hbx.1;rw[hn] at hb
   clear hw0;replace HB:=Lib.hid (below_via HB.out hb);replace HXc:=Lib.hid (HXc.out.below hb);replace HXz:=Lib.hid (HXz.out.below hb);replace HXt:=Lib.hid (HXt.out.below hb);replace HOk:=Lib.hid (HOk.out.below hb);replace HOn:=Lib.hid (HOn.out.below hb);replace HBO:=Lib.hid (below_via HBO.out hb);have HXn:Hid (Bx wx3 nn sn (zeroB)):=Lib.hid hbx.2;have HCx3:Hid (wx2.heap.size≤nn∧nn<wx3.heap.size):=Lib.hid (⟨by omega,hbx.2.lt⟩);clear hbx hn hb;clear HOn;rw[HFU.out] at HXc HOk
   go_wp2_with (first|(refine wpList_load_bx _ rfl rfl HXc.out (by kernel_rfl) ?_)|(refine wpList_store_bh (s:=s') (B:=(drB B)) rfl _ _ rfl rfl rfl HXz.out rfl ?_;intro wx4 hw9))
   have hg9:Bx wx4 (w.heap.size+1) s' ((drB B)):=by rw[hw9.out];exact Bx.row HXz.out _ _
   have ho9:Onl [w.heap.size+1] wx3 wx4:=by rw[hw9.out];exact Onl.setRow (Onl.refl _ _) (.inl (by simp)) _
   have hlo:w.heap.size≤w.heap.size+1:=by(have o0:=HNC.out;have o1:=HNC2.out;have o2:=HNC3.out;have o3:=HCx1.out;have o4:=HCx2.out;have o5:=HCx3.out;have x0:=HXc.out.lt;have x1:=HXz.out.lt;have x2:=HXt.out.lt;have x3:=HXn.out.lt;omega)
   have hb9:Below w.heap.size w wx4:=belowOnl HB.out ho9 (by simp only[List.mem_singleton,forall_eq];exact hlo) HB.out.size;have HG9:=Lib.hid hg9;have HPOST:Hid (BrA w ((drB B)) (.int .i64 0) (.returned (.tuple #[bv s' ((drB B)),.int .i64 0])) wx4):=Lib.hid ⟨_,rfl,(HOk.out.onlB ho9 HXz.out).mono (by(have o0:=HNC.out;have o1:=HNC2.out;have o2:=HNC3.out;have o3:=HCx1.out;have o4:=HCx2.out;have o5:=HCx3.out;have x0:=HXc.out.lt;have x1:=HXz.out.lt;have x2:=HXt.out.lt;have x3:=HXn.out.lt;omega)) (by have h9:=ho9.size;(have o0:=HNC.out;have o1:=HNC2.out;have o2:=HNC3.out;have o3:=HCx1.out;have o4:=HCx2.out;have o5:=HCx3.out;have x0:=HXc.out.lt;have x1:=HXz.out.lt;have x2:=HXt.out.lt;have x3:=HXn.out.lt;omega)),hb9⟩;clear hw9 hg9 ho9 hb9 hlo;go_wp2_with fail
   exact bodyPost_ret (v:= .tuple #[bv s' ((drB B)),.int .i64 0]) (results_b1 Try.results20 _ _ HG9.out rfl rfl) rfl HPOST.out
  case pos=>
   have HL2:=Lib.hid hs2;clear hs2 hst;go_wp2_with (first|(refine wpList_load_bx _ rfl rfl HXc.out (by kernel_rfl) ?_)|(refine wpList_load_ro rfl 60 (itc y).toArray _ rfl rfl HXt.out Try.underlying60 rfl rfl ?_))
   with_reducible refine(push_okv s' (drK B k) y ta tc _ HOk.out.rd HVK.out HYQ.out HL2.out HYE.out HTA.out).mono ?_
   rintro e wx2 ⟨sn,rfl,ho,hb⟩;have HCx2:Hid (wx1.heap.size≤wx2.heap.size):=Lib.hid (hb.size);replace HB:=Lib.hid (below_via HB.out hb);replace HXc:=Lib.hid (HXc.out.below hb);replace HXz:=Lib.hid (HXz.out.below hb);replace HXt:=Lib.hid (HXt.out.below hb);replace HOk:=Lib.hid (HOk.out.below hb);replace HBO:=Lib.hid (below_via HBO.out hb);have HOn:=Lib.hid ho;clear ho hb;clear HOk;have HVN:Hid (VB (drK B (k+1))):=Lib.hid (by rw[←drK_next HYO.out];exact VB.pu HVK.out HYQ.out HL2.out);rw[drK_next HYO.out] at HOn ⊢
   go_wp2_with (first|(refine wpList_store_bh rfl _ _ rfl rfl rfl (heap_alloc_new _ _) rfl ?_))
   intro wx3 hw0;have hbx:=boxed hw0.out
   obtain⟨nn,hn⟩:∃n,n=wx2.heap.size:=⟨_,rfl⟩
   rw[←hn] at hbx ⊢
   have hb:=hbx.1;rw[hn] at hb
   clear hw0;replace HB:=Lib.hid (below_via HB.out hb);replace HXc:=Lib.hid (HXc.out.below hb);replace HXz:=Lib.hid (HXz.out.below hb);replace HXt:=Lib.hid (HXt.out.below hb);replace HOn:=Lib.hid (HOn.out.below hb);replace HBO:=Lib.hid (below_via HBO.out hb);have HXn:Hid (Bx wx3 nn sn ((drK B (k+1)))):=Lib.hid hbx.2;have HCx3:Hid (wx2.heap.size≤nn∧nn<wx3.heap.size):=Lib.hid (⟨by omega,hbx.2.lt⟩);clear hbx hn hb;go_wp2_with (first|(refine wpList_store_bh (s:=sn) (B:=(drK B (k+1))) rfl _ _ rfl rfl rfl HXc.out rfl ?_)|(refine wpList_load_bx _ rfl rfl HXn.out (by kernel_rfl) ?_))
   intro wx4 hw0;have hon:Onl [nc] wx3 wx4:=by rw[hw0.out];exact Onl.setRow (Onl.refl _ _) (.inl (by simp)) _
   have hx:Bx wx4 (nc) sn ((drK B (k+1))):=by rw[hw0.out];exact Bx.row HXc.out _ _
   clear hw0;have hlo:w.heap.size≤nc:=by(have o0:=HNC.out;have o1:=HNC2.out;have o2:=HNC3.out;have o3:=HCx1.out;have o4:=HCx2.out;have o5:=HCx3.out;have x0:=HXc.out.lt;have x1:=HXz.out.lt;have x2:=HXt.out.lt;have x3:=HXn.out.lt;omega)
   have hls:w.heap.size≤wx3.heap.size:=HB.out.size;replace HB:=Lib.hid (belowOnl HB.out hon (by simp only[List.mem_singleton,forall_eq];exact hlo) hls);replace HBO:=Lib.hid (belowOnl HBO.out hon (by simp only[List.mem_singleton,forall_eq];(have o0:=HNC.out;have o1:=HNC2.out;have o2:=HNC3.out;have o3:=HCx1.out;have o4:=HCx2.out;have o5:=HCx3.out;have x0:=HXc.out.lt;have x1:=HXz.out.lt;have x2:=HXt.out.lt;have x3:=HXn.out.lt;omega)) HBO.out.size);replace HXz:=Lib.hid (HXz.out.onl hon (by simp only[List.mem_singleton];(have o0:=HNC.out;have o1:=HNC2.out;have o2:=HNC3.out;have o3:=HCx1.out;have o4:=HCx2.out;have o5:=HCx3.out;have x0:=HXc.out.lt;have x1:=HXz.out.lt;have x2:=HXt.out.lt;have x3:=HXn.out.lt;omega)));replace HXt:=Lib.hid (HXt.out.onl hon (by simp only[List.mem_singleton];(have o0:=HNC.out;have o1:=HNC2.out;have o2:=HNC3.out;have o3:=HCx1.out;have o4:=HCx2.out;have o5:=HCx3.out;have x0:=HXc.out.lt;have x1:=HXz.out.lt;have x2:=HXt.out.lt;have x3:=HXn.out.lt;omega)));replace HXn:=Lib.hid (HXn.out.onl hon (by simp only[List.mem_singleton];(have o0:=HNC.out;have o1:=HNC2.out;have o2:=HNC3.out;have o3:=HCx1.out;have o4:=HCx2.out;have o5:=HCx3.out;have x0:=HXc.out.lt;have x1:=HXz.out.lt;have x2:=HXt.out.lt;have x3:=HXn.out.lt;omega)));replace HOn:=Lib.hid (HOn.out.onlB hon HXc.out);have HCx4:Hid (wx3.heap.size≤wx4.heap.size):=Lib.hid (hon.size);clear hlo hls;replace HXc:=Lib.hid hx;clear hx hon;have HON:Hid (BdO w.heap.size wx4.heap.size wx4 sn (drK B (k+1))):=Lib.hid (HOn.out.mono (by(have o0:=HNC.out;have o1:=HNC2.out;have o2:=HNC3.out;have o3:=HCx1.out;have o4:=HCx2.out;have o5:=HCx3.out;have o6:=HCx4.out;have x0:=HXc.out.lt;have x1:=HXz.out.lt;have x2:=HXt.out.lt;have x3:=HXn.out.lt;omega)) (by(have o0:=HNC.out;have o1:=HNC2.out;have o2:=HNC3.out;have o3:=HCx1.out;have o4:=HCx2.out;have o5:=HCx3.out;have o6:=HCx4.out;have x0:=HXc.out.lt;have x1:=HXz.out.lt;have x2:=HXt.out.lt;have x3:=HXn.out.lt;omega)));clear HOn HCx1 HCx2 HCx3 HCx4;go_wp2_with fail
   go_roundw
   case rel=>exact⟨⟨k+1,by omega,by go_num,HVN.out,_,HXc.out,HON.out⟩,HB.out,HBO.out,HXz.out⟩
   case measure=>simp[intOf];omega
end Go.Proofs.Ytgkgbpapfjjkcaa
