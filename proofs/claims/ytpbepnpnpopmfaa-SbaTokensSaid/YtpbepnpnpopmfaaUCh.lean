/- All state-based actions, by the code. -/
import Derived.Test.YtpbepnpnpopmfaaUBu
import Derived.Deep.DeepCutAuto
import Derived.LoopTactic
import Derived.Deep.MidRow
namespace Go.Proofs.Ytpbepnpnpopmfaa
open Go.RowKit Plain
set_option linter.unusedVariables false
set_option linter.unusedSimpArgs false

theorem mvI_len(B:Bd)(n:Int):(mvI B n).ob.length=B.ob.length:=by
 unfold mvI
 split
 ·rename_i x hx
  have h1:(mvB B (B.ob.findIdx (fun o=>o.id==n)) x x.ow.toNat 3).ob=B.ob.set (B.ob.findIdx (fun o=>o.id==n)) (rsO x 3):=by
   unfold mvB Bd.setL
   split<;>rfl
  rw[h1,List.length_set]
 ·rfl
theorem mvs_len:∀(l:List Int) (B:Bd),(l.foldl mvI B).ob.length=B.ob.length
 |[],_=>rfl
 |n::l,B=>(mvs_len l (mvI B n)).trans (mvI_len B n)
theorem rms_len:∀(l:List Int) (B:Bd),(l.foldl rmI B).ob.length≤B.ob.length
 |[],_=>Nat.le_refl _
 |n::l,B=>Nat.le_trans (rms_len l (rmI B n)) (rm_len B n)
theorem byB_len(cs:List (Cd×List (Int×Nat)))(B:Bd)(t:Int):(byB cs B t).ob.length=B.ob.length:=mvs_len _ _
theorem ckB_len(cs:List (Cd×List (Int×Nat)))(B:Bd)(t:Int):(ckB cs B t).ob.length≤B.ob.length:=Nat.le_trans (rms_len _ _) (Nat.le_of_eq (byB_len cs B t))
theorem ckN_le(cs:List (Cd×List (Int×Nat)))(B:Bd)(t:Int):(dyL (cs.map Prod.fst) B).length≤B.ob.length∧(goL (byB cs B t)).length≤B.ob.length:=⟨pkL_len _,Nat.le_trans (pkL_len _) (Nat.le_of_eq (byB_len cs B t))⟩
/-- between the rounds -/
def CkS(cs:List (Cd×List (Int×Nat)))(B:Bd)(t:Int)(C:Bd)(m:Nat):Prop:=(m=0∧C=B)∨(0<m∧m=ckN cs B t∧C=ckB cs B t)
theorem CkS.vb{cs:List (Cd×List (Int×Nat))}{B C:Bd}{t:Int}{m:Nat}(h:CkS cs B t C m)(hv:VB B):VB C:=by
 rcases h with⟨_,rfl⟩|⟨_,_,rfl⟩
 ·exact hv
 ·exact(ckB_ok cs hv t).1
theorem CkS.len{cs:List (Cd×List (Int×Nat))}{B C:Bd}{t:Int}{m:Nat}(h:CkS cs B t C m){n:Nat}(hv:B.ob.length≤n):C.ob.length≤n:=by
 rcases h with⟨_,rfl⟩|⟨_,_,rfl⟩
 ·exact hv
 ·exact Nat.le_trans (ckB_len cs B t) hv
theorem CkS.small{cs:List (Cd×List (Int×Nat))}{B C:Bd}{t:Int}{m:Nat}(h:CkS cs B t C m){n:Nat}(hv:B.ob.length≤n):m≤n+n:=by
 rcases h with⟨rfl,_⟩|⟨_,rfl,_⟩
 ·omega
 ·have:=ckN_le cs B t
  unfold ckN;omega
theorem CkS.done{cs:List (Cd×List (Int×Nat))}{B C:Bd}{t:Int}{m:Nat}(h:CkS cs B t C m)(h0:ckN cs C t=0):C=ckB cs B t∧m=ckN cs B t:=by
 rcases h with⟨rfl,rfl⟩|⟨_,h1,h2⟩
 ·have h1:=ckN_zero h0
  exact⟨(ckB_nil h1.1 h1.2 t).symm,h0.symm⟩
 ·exact⟨h2,h1⟩
theorem CkS.next{cs:List (Cd×List (Int×Nat))}{B C:Bd}{t:Int}{m:Nat}(h:CkS cs B t C m)(hv:VB B)(h0:0<ckN cs C t):m=0∧CkS cs B t (ckB cs C t) (ckN cs C t):=by
 rcases h with⟨rfl,rfl⟩|⟨_,h1,rfl⟩
 ·exact⟨rfl,.inr ⟨h0,rfl,rfl⟩⟩
 ·obtain⟨_,h2,h3⟩:=ckB_ok cs hv t
  rw[ckN_nil h3 h2] at h0
  omega
def CkL(w:World)(cs:List (Cd×List (Int×Nat)))(B:Bd)(t:Int)(v:Value)(wr:World):Prop:=∃(C:Bd) (s':Bs) (m:Nat),v= .int .i64 m∧Below w.heap.size w wr∧Bx wr w.heap.size s' C∧Bx wr (w.heap.size+1) nilS zeroB∧BdO w.heap.size wr.heap.size wr s' C∧CkS cs B t C m
set_option maxRecDepth 100000 in
set_option maxHeartbeats 4000000 in
theorem check_neg(v:Value)(cs:List (Cd×List (Int×Nat)))(s:Bs)(B:Bd)(t:Int)(w:World)(hm:t<0):Calls Try.prog 8 #[v,bv s B,.int .i64 t] w (BrP w zeroB (.int .i64 0) (.int .i64 2)):=by
 have tm:decide (t<0)=true:=decide_eq_true hm;clear hm;go_enter Try.func8,Try.ntmps8
 go_upto_region 1 with fail
 change Code.wp Try.prog _ _ _ ((w.alloc (.cells (bcells s B) 34)).alloc (.cells (bcells nilS zeroB) 34))
 obtain⟨wz,hwz⟩:∃W,W=((w.alloc (.cells (bcells s B) 34)).alloc (.cells (bcells nilS zeroB) 34)):=⟨_,rfl⟩
 rw[←hwz];have b0:Below w.heap.size w (w.alloc (.cells (bcells s B) 34)):=by exact(Below.refl _ _).alloc (Nat.le_refl _) _
 have b1:Below (w.alloc (.cells (bcells s B) 34)).heap.size (w.alloc (.cells (bcells s B) 34)) wz:=by rw[hwz];exact(Below.refl _ _).alloc (Nat.le_refl _) _
 have HB:Hid (Below w.heap.size w wz):=Lib.hid (below_via b0 b1);have HXb:Hid (Bx wz (w.heap.size) s B):=Lib.hid ((Ro.new w (bcells s B) 34).below b1:Ro _ _ _ _);have HXz:Hid (Bx wz (w.heap.size+1) nilS zeroB):=Lib.hid (by rw[show w.heap.size+1=(w.alloc (.cells (bcells s B) 34)).heap.size by simp];exact(by rw[hwz];exact(Ro.new (w.alloc (.cells (bcells s B) 34)) (bcells nilS zeroB) 34)));have HC1:Hid (w.heap.size+2≤wz.heap.size):=Lib.hid (by rw[hwz];simp);clear hwz b0 b1
 go_upto_region 2 with fail
 go_wp2_with (first|(refine wpList_store_bh (s:=nilS) (B:=zeroB) rfl _ _ rfl rfl rfl HXz.out rfl ?_;intro w1 hw9))
 have hg9:Bx w1 (w.heap.size+1) nilS (zeroB):=by rw[hw9.out];exact Bx.row HXz.out _ _
 have ho9:Onl [w.heap.size+1] wz w1:=by rw[hw9.out];exact Onl.setRow (Onl.refl _ _) (.inl (by simp)) _
 have hlo:w.heap.size≤w.heap.size+1:=by(have o0:=HC1.out;have x0:=HXb.out.lt;have x1:=HXz.out.lt;omega)
 have hb9:Below w.heap.size w w1:=belowOnl HB.out ho9 (by simp only[List.mem_singleton,forall_eq];exact hlo) HB.out.size;have HG9:=Lib.hid hg9;have HPOST:Hid (BrP w (zeroB) (.int .i64 0) (.int .i64 2) (.returned (.tuple #[bv nilS (zeroB),.int .i64 0,.int .i64 2])) w1):=Lib.hid ⟨_,rfl,zeroOwn _ _ _,hb9⟩;clear hw9 hg9 ho9 hb9 hlo;go_wp2_with fail
 exact bodyPost_ret (v:= .tuple #[bv nilS (zeroB),.int .i64 0,.int .i64 2]) (results_b2 Try.results8 _ _ HG9.out rfl rfl rfl) rfl HPOST.out
set_option maxRecDepth 100000 in
set_option maxHeartbeats 4000000 in
theorem check_bad(v:Value)(cs:List (Cd×List (Int×Nat)))(s:Bs)(B:Bd)(t:Int)(w:World)(hm:0≤t)(h:BdR w s B)(hi:B.I)(hsm:B.Sm)(hv:¬VB B):Calls Try.prog 8 #[v,bv s B,.int .i64 t] w (BrP w zeroB (.int .i64 0) (.int .i64 2)):=by
 have tm:decide (t<0)=false:=decide_eq_false (by omega);clear hm;have HR:=Lib.hid h;have HI:=Lib.hid hi;have HSM:=Lib.hid hsm;have HV:=Lib.hid hv;clear h hi hsm hv;go_enter Try.func8,Try.ntmps8
 go_upto_region 1 with fail
 change Code.wp Try.prog _ _ _ ((w.alloc (.cells (bcells s B) 34)).alloc (.cells (bcells nilS zeroB) 34))
 obtain⟨wz,hwz⟩:∃W,W=((w.alloc (.cells (bcells s B) 34)).alloc (.cells (bcells nilS zeroB) 34)):=⟨_,rfl⟩
 rw[←hwz];have b0:Below w.heap.size w (w.alloc (.cells (bcells s B) 34)):=by exact(Below.refl _ _).alloc (Nat.le_refl _) _
 have b1:Below (w.alloc (.cells (bcells s B) 34)).heap.size (w.alloc (.cells (bcells s B) 34)) wz:=by rw[hwz];exact(Below.refl _ _).alloc (Nat.le_refl _) _
 have HB:Hid (Below w.heap.size w wz):=Lib.hid (below_via b0 b1);have HXb:Hid (Bx wz (w.heap.size) s B):=Lib.hid ((Ro.new w (bcells s B) 34).below b1:Ro _ _ _ _);have HXz:Hid (Bx wz (w.heap.size+1) nilS zeroB):=Lib.hid (by rw[show w.heap.size+1=(w.alloc (.cells (bcells s B) 34)).heap.size by simp];exact(by rw[hwz];exact(Ro.new (w.alloc (.cells (bcells s B) 34)) (bcells nilS zeroB) 34)));have HC1:Hid (w.heap.size+2≤wz.heap.size):=Lib.hid (by rw[hwz];simp);clear hwz b0 b1;go_wp2_with (first|(refine wpList_load_bx _ rfl rfl HXb.out (by kernel_rfl) ?_))
 with_reducible refine(bvalid s (B) _ (HR.out.below HB.out) HI.out HSM.out).mono ?_
 rintro e w1 ⟨⟨r,rfl,hr⟩,hb⟩;have HC2:Hid (wz.heap.size≤w1.heap.size):=Lib.hid (hb.size);replace HB:=Lib.hid (below_via HB.out hb);replace HXb:=Lib.hid (HXb.out.below hb);replace HXz:=Lib.hid (HXz.out.below hb);obtain rfl:r=false:=by cases r with|false=>rfl|true=>exact absurd (hr.1 rfl) HV.out
 clear hr hb
 go_upto_region 2 with fail
 go_wp2_with (first|(refine wpList_store_bh (s:=nilS) (B:=zeroB) rfl _ _ rfl rfl rfl HXz.out rfl ?_;intro w2 hw9))
 have hg9:Bx w2 (w.heap.size+1) nilS (zeroB):=by rw[hw9.out];exact Bx.row HXz.out _ _
 have ho9:Onl [w.heap.size+1] w1 w2:=by rw[hw9.out];exact Onl.setRow (Onl.refl _ _) (.inl (by simp)) _
 have hlo:w.heap.size≤w.heap.size+1:=by(have o0:=HC1.out;have o1:=HC2.out;have x0:=HXb.out.lt;have x1:=HXz.out.lt;omega)
 have hb9:Below w.heap.size w w2:=belowOnl HB.out ho9 (by simp only[List.mem_singleton,forall_eq];exact hlo) HB.out.size;have HG9:=Lib.hid hg9;have HPOST:Hid (BrP w (zeroB) (.int .i64 0) (.int .i64 2) (.returned (.tuple #[bv nilS (zeroB),.int .i64 0,.int .i64 2])) w2):=Lib.hid ⟨_,rfl,zeroOwn _ _ _,hb9⟩;clear hw9 hg9 ho9 hb9 hlo;go_wp2_with fail
 exact bodyPost_ret (v:= .tuple #[bv nilS (zeroB),.int .i64 0,.int .i64 2]) (results_b2 Try.results8 _ _ HG9.out rfl rfl rfl) rfl HPOST.out
set_option maxRecDepth 100000 in
set_option maxHeartbeats 4000000 in
theorem check_ok(v:Value)(cs:List (Cd×List (Int×Nat)))(s:Bs)(B:Bd)(t:Int)(w:World)(hc:CsR w v cs)(hci:CI (cs.map Prod.fst))(hl:Lt cs)(h:BdR w s B)(hv:VB B)(ht:0≤t)(hn:B.ob.length≤210):Calls Try.prog 8 #[v,bv s B,.int .i64 t] w (BrP w (ckB cs B t) (.int .i64 (ckN cs B t:Nat)) (.int .i64 0)):=by
 have tm:decide (t<0)=false:=decide_eq_false (by omega);have HCS:=Lib.hid hc;have HCI:=Lib.hid hci;have HL:=Lib.hid hl;have HR:=Lib.hid h;have HV:=Lib.hid hv;have HT:=Lib.hid ht;have HN:=Lib.hid hn;clear h hv ht hn hc hci hl;go_enter Try.func8,Try.ntmps8
 go_upto_region 1 with fail
 change Code.wp Try.prog _ _ _ ((w.alloc (.cells (bcells s B) 34)).alloc (.cells (bcells nilS zeroB) 34))
 obtain⟨wz,hwz⟩:∃W,W=((w.alloc (.cells (bcells s B) 34)).alloc (.cells (bcells nilS zeroB) 34)):=⟨_,rfl⟩
 rw[←hwz];have b0:Below w.heap.size w (w.alloc (.cells (bcells s B) 34)):=by exact(Below.refl _ _).alloc (Nat.le_refl _) _
 have b1:Below (w.alloc (.cells (bcells s B) 34)).heap.size (w.alloc (.cells (bcells s B) 34)) wz:=by rw[hwz];exact(Below.refl _ _).alloc (Nat.le_refl _) _
 have HB:Hid (Below w.heap.size w wz):=Lib.hid (below_via b0 b1);have HXb:Hid (Bx wz (w.heap.size) s B):=Lib.hid ((Ro.new w (bcells s B) 34).below b1:Ro _ _ _ _);have HXz:Hid (Bx wz (w.heap.size+1) nilS zeroB):=Lib.hid (by rw[show w.heap.size+1=(w.alloc (.cells (bcells s B) 34)).heap.size by simp];exact(by rw[hwz];exact(Ro.new (w.alloc (.cells (bcells s B) 34)) (bcells nilS zeroB) 34)));have HC1:Hid (w.heap.size+2≤wz.heap.size):=Lib.hid (by rw[hwz];simp);clear hwz b0 b1;go_wp2_with (first|(refine wpList_load_bx _ rfl rfl HXb.out (by kernel_rfl) ?_))
 with_reducible refine(bvalid s (B) _ (HR.out.below HB.out) HV.out.i HV.out.sm).mono ?_
 rintro e w1 ⟨⟨r,rfl,hr⟩,hb⟩;have HC2:Hid (wz.heap.size≤w1.heap.size):=Lib.hid (hb.size);replace HB:=Lib.hid (below_via HB.out hb);replace HXb:=Lib.hid (HXb.out.below hb);replace HXz:=Lib.hid (HXz.out.below hb);obtain rfl:r=true:=hr.2 HV.out;clear hr hb
 go_upto_region 3 with fail
 clear tm;go_wp2_with (first|(refine wpList_load_bx _ rfl rfl HXb.out (by kernel_rfl) ?_))
 with_reducible refine(bcopy s B _ (HR.out.below HB.out) HV.out.sm HV.out.tl).mono ?_
 rintro e w2 ⟨sc,rfl,ho,hb⟩;have HC3:Hid (w1.heap.size≤w2.heap.size):=Lib.hid (hb.size);replace HB:=Lib.hid (below_via HB.out hb);replace HXb:=Lib.hid (HXb.out.below hb);replace HXz:=Lib.hid (HXz.out.below hb);have HOc:=Lib.hid ho;clear ho hb;go_wp2_with (first|(refine wpList_store_bh (s:=sc) (B:=B) rfl _ _ rfl rfl rfl HXb.out rfl ?_))
 intro w3 hw0;have hon:Onl [w.heap.size] w2 w3:=by rw[hw0.out];exact Onl.setRow (Onl.refl _ _) (.inl (by simp)) _
 have hx:Bx w3 (w.heap.size) sc (B):=by rw[hw0.out];exact Bx.row HXb.out _ _
 clear hw0;have hlo:w.heap.size≤w.heap.size:=by(have o0:=HC1.out;have o1:=HC2.out;have o2:=HC3.out;have x0:=HXb.out.lt;have x1:=HXz.out.lt;omega)
 have hls:w.heap.size≤w2.heap.size:=HB.out.size;replace HB:=Lib.hid (belowOnl HB.out hon (by simp only[List.mem_singleton,forall_eq];exact hlo) hls);replace HXz:=Lib.hid (HXz.out.onl hon (by simp only[List.mem_singleton];(have o0:=HC1.out;have o1:=HC2.out;have o2:=HC3.out;have x0:=HXb.out.lt;have x1:=HXz.out.lt;omega)));replace HOc:=Lib.hid (HOc.out.onlB hon HXb.out);have HC4:Hid (w2.heap.size≤w3.heap.size):=Lib.hid (hon.size);clear hlo hls;replace HXb:=Lib.hid hx;clear hx hon;have HO1:Hid (BdO w.heap.size w3.heap.size w3 sc B):=Lib.hid (HOc.out.mono (by(have o0:=HC1.out;have o1:=HC2.out;have o2:=HC3.out;have o3:=HC4.out;have x0:=HXb.out.lt;have x1:=HXz.out.lt;omega)) (by(have o0:=HC1.out;have o1:=HC2.out;have o2:=HC3.out;have o3:=HC4.out;have x0:=HXb.out.lt;have x1:=HXz.out.lt;omega)));clear HOc HC1 HC2 HC3 HC4 HR;go_wp2_with fail
 go_loopw [9] (fun v wr=>CkL w cs B t v wr) (fun v _=>1-(intOf v).toNat)
 case atStart=>exact⟨B,sc,0,rfl,HB.out,HXb.out,HXz.out,HO1.out,.inl ⟨rfl,rfl⟩⟩
 case round=>
  obtain⟨C,s',m,rfl,hb,hx,hz,ho,hst⟩:=hrel
  replace HB:=Lib.hid hb;replace HXb:=Lib.hid hx;replace HXz:=Lib.hid hz;replace HO1:=Lib.hid ho;have HST:=Lib.hid hst;have HVC:Hid (VB C):=Lib.hid (hst.vb HV.out);have HNC:Hid (C.ob.length≤210):=Lib.hid (hst.len HN.out);have hm:m≤420:=hst.small HN.out;clear hb hx hz ho hst;have HWS0:Hid (w.heap.size+2≤wr.heap.size):=Lib.hid (by have h1:=HXz.out.lt;omega);go_wp2_with (first|(refine wpList_load_bx _ rfl rfl HXb.out (by kernel_rfl) ?_))
  with_reducible refine(bbury v cs s' C t _ (HCS.out.below HB.out) HCI.out HL.out HO1.out.rd HVC.out HT.out HNC.out).mono ?_
  rintro e wy1 ⟨sd,rfl,ho,hb⟩;have HCy1:Hid (wr.heap.size≤wy1.heap.size):=Lib.hid (hb.size);replace HB:=Lib.hid (below_via HB.out hb);replace HXb:=Lib.hid (HXb.out.below hb);replace HXz:=Lib.hid (HXz.out.below hb);replace HO1:=Lib.hid (HO1.out.below hb);have HOd:=Lib.hid ho;clear ho hb
  obtain⟨nd,hnd⟩:∃n,(dyL (cs.map Prod.fst) C).length=n:=⟨_,rfl⟩
  have hnd2:nd≤210:=by rw[←hnd];exact Nat.le_trans (ckN_le cs C t).1 HNC.out
  rw[hnd];have HND:=Lib.hid hnd;clear hnd;go_wp2_with (first|(refine wpList_store_bh rfl _ _ rfl rfl rfl (heap_alloc_new _ _) rfl ?_))
  intro wy2 hw0;have hbx:=boxed hw0.out
  obtain⟨nn,hn⟩:∃n,n=wy1.heap.size:=⟨_,rfl⟩
  rw[←hn] at hbx ⊢
  have hb:=hbx.1;rw[hn] at hb
  clear hw0;replace HB:=Lib.hid (below_via HB.out hb);replace HXb:=Lib.hid (HXb.out.below hb);replace HXz:=Lib.hid (HXz.out.below hb);replace HO1:=Lib.hid (HO1.out.below hb);replace HOd:=Lib.hid (HOd.out.below hb);have HXn:Hid (Bx wy2 nn sd ((byB cs C t))):=Lib.hid hbx.2;have HCy2:Hid (wy1.heap.size≤nn∧nn<wy2.heap.size):=Lib.hid (⟨by omega,hbx.2.lt⟩);clear hbx hn hb;go_wp2_with (first|(refine wpList_load_bx _ rfl rfl HXn.out (by kernel_rfl) ?_))
  with_reducible refine(bsweep sd (byB cs C t) (wr.heap.size) (wy1.heap.size) _ HOd.out (by(have o0:=HWS0.out;have o1:=HCy1.out;have o2:=HCy2.out;have x0:=HXb.out.lt;have x1:=HXz.out.lt;have x2:=HXn.out.lt;omega)) (by(have o0:=HWS0.out;have o1:=HCy1.out;have o2:=HCy2.out;have x0:=HXb.out.lt;have x1:=HXz.out.lt;have x2:=HXn.out.lt;omega)) (byB_ok cs HVC.out t).1).mono ?_
  rintro e wy3 ⟨sn,rfl,ho,hb⟩;have HCy3:Hid (wy2.heap.size≤wy3.heap.size):=Lib.hid (hb.size);replace HB:=Lib.hid (below_via HB.out hb);replace HXb:=Lib.hid (HXb.out.below hb);replace HXz:=Lib.hid (HXz.out.below hb);replace HXn:=Lib.hid (HXn.out.below hb);replace HO1:=Lib.hid (HO1.out.below hb);replace HOd:=Lib.hid (HOd.out.below hb);have HOn:=Lib.hid ho
  obtain⟨nl,hnl⟩:∃n,(goL (byB cs C t)).length=n:=⟨_,rfl⟩
  have hnl2:nl≤210:=by rw[←hnl];exact Nat.le_trans (ckN_le cs C t).2 HNC.out
  rw[hnl];have HNL:=Lib.hid hnl;have HCN:Hid (ckN cs C t=nd+nl):=Lib.hid (by unfold ckN;rw[HND.out,HNL.out]);clear ho hb hnl;clear HOd;replace HOn:Hid (BdO wr.heap.size wy3.heap.size wy3 sn (ckB cs C t)):=HOn;go_wp2_with (first|(refine wpList_store_bh (s:=sn) (B:=(ckB cs C t)) rfl _ _ rfl rfl rfl HXn.out rfl ?_))
  intro wy4 hw0;have hon:Onl [nn] wy3 wy4:=by rw[hw0.out];exact Onl.setRow (Onl.refl _ _) (.inl (by simp)) _
  have hx:Bx wy4 (nn) sn ((ckB cs C t)):=by rw[hw0.out];exact Bx.row HXn.out _ _
  clear hw0;have hlo:w.heap.size≤nn:=by(have o0:=HWS0.out;have o1:=HCy1.out;have o2:=HCy2.out;have o3:=HCy3.out;have x0:=HXb.out.lt;have x1:=HXz.out.lt;have x2:=HXn.out.lt;omega)
  have hls:w.heap.size≤wy3.heap.size:=HB.out.size;replace HB:=Lib.hid (belowOnl HB.out hon (by simp only[List.mem_singleton,forall_eq];exact hlo) hls);replace HXb:=Lib.hid (HXb.out.onl hon (by simp only[List.mem_singleton];(have o0:=HWS0.out;have o1:=HCy1.out;have o2:=HCy2.out;have o3:=HCy3.out;have x0:=HXb.out.lt;have x1:=HXz.out.lt;have x2:=HXn.out.lt;omega)));replace HXz:=Lib.hid (HXz.out.onl hon (by simp only[List.mem_singleton];(have o0:=HWS0.out;have o1:=HCy1.out;have o2:=HCy2.out;have o3:=HCy3.out;have x0:=HXb.out.lt;have x1:=HXz.out.lt;have x2:=HXn.out.lt;omega)));replace HO1:=Lib.hid (HO1.out.onlB hon HXn.out);replace HOn:=Lib.hid (HOn.out.onlB hon HXn.out);have HCy4:Hid (wy3.heap.size≤wy4.heap.size):=Lib.hid (hon.size);clear hlo hls;replace HXn:=Lib.hid hx;clear hx hon
  go_upto_region 7 with fail
  by_cases h0:nd+nl=0
  ·have q0:((nd:Int)+(nl:Int)==0)=true:=beq_iff_eq.2 (by omega)
   have q0':(nd+nl==0)=true:=beq_iff_eq.2 h0
   obtain⟨hcb,hmn⟩:=HST.out.done (HCN.out.trans h0)
   have HCB:=Lib.hid hcb;have HMN:=Lib.hid hmn;clear h0 hcb hmn
   go_upto_region 8 with fail
   clear q0 q0';go_wp2_with (first|(refine wpList_load_bx _ rfl rfl HXb.out (by kernel_rfl) ?_)|(refine wpList_store_bh (s:=s') (B:=C) rfl _ _ rfl rfl rfl HXz.out rfl ?_;intro wya5 hw9))
   have hg9:Bx wya5 (w.heap.size+1) s' (C):=by rw[hw9.out];exact Bx.row HXz.out _ _
   have ho9:Onl [w.heap.size+1] wy4 wya5:=by rw[hw9.out];exact Onl.setRow (Onl.refl _ _) (.inl (by simp)) _
   have hlo:w.heap.size≤w.heap.size+1:=by(have o0:=HWS0.out;have o1:=HCy1.out;have o2:=HCy2.out;have o3:=HCy3.out;have o4:=HCy4.out;have x0:=HXb.out.lt;have x1:=HXz.out.lt;have x2:=HXn.out.lt;omega)
   have hb9:Below w.heap.size w wya5:=belowOnl HB.out ho9 (by simp only[List.mem_singleton,forall_eq];exact hlo) HB.out.size;have HG9:=Lib.hid hg9;have HPOST:Hid (BrP w (ckB cs B t) (.int .i64 (ckN cs B t:Nat)) (.int .i64 0) (.returned (.tuple #[bv s' (C),.int .i64 (m:Nat),.int .i64 0])) wya5):=Lib.hid (by rw[←HMN.out,←HCB.out];exact⟨_,rfl,(HO1.out.onlB ho9 HXz.out).mono (by(have o0:=HWS0.out;have o1:=HCy1.out;have o2:=HCy2.out;have o3:=HCy3.out;have o4:=HCy4.out;have x0:=HXb.out.lt;have x1:=HXz.out.lt;have x2:=HXn.out.lt;omega)) (by have h9:=ho9.size;(have o0:=HWS0.out;have o1:=HCy1.out;have o2:=HCy2.out;have o3:=HCy3.out;have o4:=HCy4.out;have x0:=HXb.out.lt;have x1:=HXz.out.lt;have x2:=HXn.out.lt;omega)),hb9⟩);clear hw9 hg9 ho9 hb9 hlo;go_wp2_with fail
   exact bodyPost_ret (v:= .tuple #[bv s' (C),.int .i64 (m:Nat),.int .i64 0]) (results_b2 Try.results8 _ _ HG9.out rfl rfl rfl) rfl HPOST.out
  ·have q0:((nd:Int)+(nl:Int)==0)=false:=beq_eq_false_iff_ne.2 (by omega)
   have q0':(nd+nl==0)=false:=beq_eq_false_iff_ne.2 h0
   obtain⟨hm0,hnx⟩:=HST.out.next HV.out (by rw[HCN.out];omega)
   have HNX:=Lib.hid hnx;have HM0:=Lib.hid hm0;have h0':0<nd+nl:=by omega
   have HH0:=Lib.hid h0';clear h0 hm0 hnx h0'
   go_upto_region 9 with fail
   clear q0 q0';go_wp2_with (first|(refine wpList_store_bh (s:=sn) (B:=(ckB cs C t)) rfl _ _ rfl rfl rfl HXb.out rfl ?_)|(refine wpList_load_bx _ rfl rfl HXn.out (by kernel_rfl) ?_))
   intro wyn5 hw0;have hon:Onl [w.heap.size] wy4 wyn5:=by rw[hw0.out];exact Onl.setRow (Onl.refl _ _) (.inl (by simp)) _
   have hx:Bx wyn5 (w.heap.size) sn ((ckB cs C t)):=by rw[hw0.out];exact Bx.row HXb.out _ _
   clear hw0;have hlo:w.heap.size≤w.heap.size:=by(have o0:=HWS0.out;have o1:=HCy1.out;have o2:=HCy2.out;have o3:=HCy3.out;have o4:=HCy4.out;have x0:=HXb.out.lt;have x1:=HXz.out.lt;have x2:=HXn.out.lt;omega)
   have hls:w.heap.size≤wy4.heap.size:=HB.out.size;replace HB:=Lib.hid (belowOnl HB.out hon (by simp only[List.mem_singleton,forall_eq];exact hlo) hls);replace HXz:=Lib.hid (HXz.out.onl hon (by simp only[List.mem_singleton];(have o0:=HWS0.out;have o1:=HCy1.out;have o2:=HCy2.out;have o3:=HCy3.out;have o4:=HCy4.out;have x0:=HXb.out.lt;have x1:=HXz.out.lt;have x2:=HXn.out.lt;omega)));replace HXn:=Lib.hid (HXn.out.onl hon (by simp only[List.mem_singleton];(have o0:=HWS0.out;have o1:=HCy1.out;have o2:=HCy2.out;have o3:=HCy3.out;have o4:=HCy4.out;have x0:=HXb.out.lt;have x1:=HXz.out.lt;have x2:=HXn.out.lt;omega)));replace HO1:=Lib.hid (HO1.out.onlB hon HXb.out);replace HOn:=Lib.hid (HOn.out.onlB hon HXb.out);have HCyn5:Hid (wy4.heap.size≤wyn5.heap.size):=Lib.hid (hon.size);clear hlo hls;replace HXb:=Lib.hid hx;clear hx hon;have HON:Hid (BdO w.heap.size wyn5.heap.size wyn5 sn (ckB cs C t)):=Lib.hid (HOn.out.mono (by(have o0:=HWS0.out;have o1:=HCy1.out;have o2:=HCy2.out;have o3:=HCy3.out;have o4:=HCy4.out;have o5:=HCyn5.out;have x0:=HXb.out.lt;have x1:=HXz.out.lt;have x2:=HXn.out.lt;omega)) (by(have o0:=HWS0.out;have o1:=HCy1.out;have o2:=HCy2.out;have o3:=HCy3.out;have o4:=HCy4.out;have o5:=HCyn5.out;have x0:=HXb.out.lt;have x1:=HXz.out.lt;have x2:=HXn.out.lt;omega)));have HNX2:Hid (CkS cs B t (ckB cs C t) (m+nd+nl)):=Lib.hid (by have h1:=HNX.out;rw[HCN.out] at h1;rw[HM0.out,Nat.zero_add];exact h1);go_wp2_with fail
   go_roundw
   case rel=>exact⟨_,sn,m+nd+nl,by go_num,HB.out,HXb.out,HXz.out,HON.out,HNX2.out⟩
   case measure=>have h1:=HM0.out;have h2:=HH0.out;simp[intOf];omega
end Go.Proofs.Ytpbepnpnpopmfaa
