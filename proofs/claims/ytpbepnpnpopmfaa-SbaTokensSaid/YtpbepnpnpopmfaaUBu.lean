/- All that must die is buried, all tokens that must go are swept, by the code. -/
import Derived.Test.YtpbepnpnpopmfaaUVe
import Derived.Test.YtpbepnpnpopmfaaUMv
import Derived.Test.YtpbepnpnpopmfaaURm
import Derived.Test.YtpbepnpnpopmfaaTCo
import Derived.Test.YtpbepnpnpopmfaaTOg
import Derived.Deep.DeepCutAuto
import Derived.LoopTactic
import Derived.Deep.MidRow
namespace Go.Proofs.Ytpbepnpnpopmfaa
open Go.RowKit Plain
set_option linter.unusedVariables false
set_option linter.unusedSimpArgs false

theorem infoHp:(Try.prog.info? 110).map (fun i=>(i.zero,i.size,i.bytes))=some (some (.agg #[.int .i64 0,.int .i64 0,.int .i64 0]),3,24):=by kernel_rfl
/-- these die -/
def Plain.hpL(l:List Int):List Hp:=l.map (fun n=>⟨1,n,0⟩)
theorem hpL_next{l:List Int}{k:Nat}{n:Int}(h:l[k]? =some n):hpL (l.take (k+1))=hpL (l.take k)++[⟨1,n,0⟩]:=by
 unfold hpL;rw[List.take_add_one,h,List.map_append]
 rfl
theorem hpL_len(l:List Int):(hpL l).length=l.length:=List.length_map _
/-- bury and sweep, with the cards' triggers -/
def Plain.byB(cs:List (Cd×List (Int×Nat)))(B:Bd)(t:Int):Bd:=buB (cs.map Prod.fst) B (allL cs B (hpL (dyL (cs.map Prod.fst) B))) t
def Plain.ckB(cs:List (Cd×List (Int×Nat)))(B:Bd)(t:Int):Bd:=swB (byB cs B t)
def Plain.ckN(cs:List (Cd×List (Int×Nat)))(B:Bd)(t:Int):Nat:=(dyL (cs.map Prod.fst) B).length+(goL (byB cs B t)).length
theorem byB_ok(cs:List (Cd×List (Int×Nat))){B:Bd}(h:VB B)(t:Int):VB (byB cs B t)∧dyL (cs.map Prod.fst) (byB cs B t)=[]:=buB_ok _ h (fun x hx=>allL_Q h x hx) t
theorem ckB_ok(cs:List (Cd×List (Int×Nat))){B:Bd}(h:VB B)(t:Int):VB (ckB cs B t)∧goL (ckB cs B t)=[]∧dyL (cs.map Prod.fst) (ckB cs B t)=[]:=swB_ok _ (byB_ok cs h t).1 (byB_ok cs h t).2
theorem byB_nil{cs:List (Cd×List (Int×Nat))}{B:Bd}(h:dyL (cs.map Prod.fst) B=[])(t:Int):byB cs B t=B:=by
 unfold byB;rw[h];exact buB_nil h t
theorem ckB_nil{cs:List (Cd×List (Int×Nat))}{B:Bd}(h:dyL (cs.map Prod.fst) B=[])(hg:goL B=[])(t:Int):ckB cs B t=B:=by
 unfold ckB;rw[byB_nil h];exact swB_nil hg
theorem ckN_nil{cs:List (Cd×List (Int×Nat))}{B:Bd}(h:dyL (cs.map Prod.fst) B=[])(hg:goL B=[])(t:Int):ckN cs B t=0:=by
 unfold ckN;rw[byB_nil h,h,hg]
 rfl
theorem ckN_zero{cs:List (Cd×List (Int×Nat))}{B:Bd}{t:Int}(h:ckN cs B t=0):dyL (cs.map Prod.fst) B=[]∧goL B=[]:=by
 unfold ckN at h
 have h1:dyL (cs.map Prod.fst) B=[]:=List.eq_nil_of_length_eq_zero (by omega);rw[byB_nil h1] at h
 exact⟨h1,List.eq_nil_of_length_eq_zero (by omega)⟩
def BuL(w:World)(l:List Int)(lv i:Value)(wr:World):Prop:=∃(k:Nat) (a:Option Addr) (c:Nat),k≤l.length∧i= .int .i64 k∧lv= .slice a (hpL (l.take k)).length c∧Below w.heap.size w wr∧Ow hpc 3 110 wr w.heap.size (.slice a (hpL (l.take k)).length c) (hpL (l.take k))
def BuM(w:World)(lo:Nat)(l:List Int)(f:Bd→Int→Bd)(B:Bd)(lv:Value)(i:Value)(wr:World):Prop:=∃(k:Nat) (s':Bs),k≤l.length∧i= .int .i64 k∧Below w.heap.size w wr∧Bx wr w.heap.size s' ((l.take k).foldl f B)∧Bx wr (w.heap.size+1) nilS zeroB∧BdO lo wr.heap.size wr s' ((l.take k).foldl f B)∧Rw ic 1 wr lv l
def SwA(lo:Nat)(w:World)(B:Bd)(n:Nat)(e:Ending)(w':World):Prop:=∃s',e= .returned (.tuple #[bv s' B,.int .i64 n])∧BdO lo w'.heap.size w' s' B∧Below w.heap.size w w'
set_option maxRecDepth 100000 in
set_option maxHeartbeats 4000000 in
theorem bbury(v:Value)(cs:List (Cd×List (Int×Nat)))(s:Bs)(B:Bd)(t:Int)(w:World)(hc:CsR w v cs)(hci:CI (cs.map Prod.fst))(hl:Lt cs)(h:BdR w s B)(hv:VB B)(ht:0≤t)(hn:B.ob.length≤210):Calls Try.prog 23 #[v,bv s B,.int .i64 t] w (BrA w (byB cs B t) (.int .i64 ((dyL (cs.map Prod.fst) B).length:Nat))):=by
 have HCS:=Lib.hid hc;have HCI:=Lib.hid hci;have HL:=Lib.hid hl;have HR:=Lib.hid h;have HV:=Lib.hid hv;have HT:=Lib.hid ht;have HN:=Lib.hid hn;clear h hv ht hn hc hci hl;go_enter Try.func23,Try.ntmps23
 go_upto_region 1 with fail
 change Code.wp Try.prog _ _ _ ((w.alloc (.cells (bcells s B) 34)).alloc (.cells (bcells nilS zeroB) 34))
 obtain⟨wz,hwz⟩:∃W,W=((w.alloc (.cells (bcells s B) 34)).alloc (.cells (bcells nilS zeroB) 34)):=⟨_,rfl⟩
 rw[←hwz];have b0:Below w.heap.size w (w.alloc (.cells (bcells s B) 34)):=by exact(Below.refl _ _).alloc (Nat.le_refl _) _
 have b1:Below (w.alloc (.cells (bcells s B) 34)).heap.size (w.alloc (.cells (bcells s B) 34)) wz:=by rw[hwz];exact(Below.refl _ _).alloc (Nat.le_refl _) _
 have HB:Hid (Below w.heap.size w wz):=Lib.hid (below_via b0 b1);have HXb:Hid (Bx wz (w.heap.size) s B):=Lib.hid ((Ro.new w (bcells s B) 34).below b1:Ro _ _ _ _);have HXz:Hid (Bx wz (w.heap.size+1) nilS zeroB):=Lib.hid (by rw[show w.heap.size+1=(w.alloc (.cells (bcells s B) 34)).heap.size by simp];exact(by rw[hwz];exact(Ro.new (w.alloc (.cells (bcells s B) 34)) (bcells nilS zeroB) 34)));have HC1:Hid (w.heap.size+2≤wz.heap.size):=Lib.hid (by rw[hwz];simp);clear hwz b0 b1;go_wp2_with (first|(refine wpList_load_bx _ rfl rfl HXb.out (by kernel_rfl) ?_))
 with_reducible refine(bdying _ (cs.map Prod.fst) s B _ (HCS.out.row.below HB.out) HCI.out (HR.out.below HB.out) HV.out).mono ?_
 rintro e w1 ⟨da,dc,rfl,ho,hb⟩;have HC2:Hid (wz.heap.size≤w1.heap.size):=Lib.hid (hb.size);replace HB:=Lib.hid (below_via HB.out hb);replace HXb:=Lib.hid (HXb.out.below hb);replace HXz:=Lib.hid (HXz.out.below hb)
 obtain⟨l,hld⟩:∃l,dyL (cs.map Prod.fst) B=l:=⟨_,rfl⟩
 have HBY:Hid (byB cs B t=l.foldl mvI (coB B (allL cs B (hpL l)) t)):=Lib.hid (by unfold byB buB;rw[hld]);have HND:Hid (l.Nodup):=Lib.hid (by rw[←hld];exact pk_nodup HV.out _)
 have HID:Hid (∀x∈hpL l,Plain.I x.id):=Lib.hid (fun x hx=>by
  obtain⟨n,hn,rfl⟩:=List.mem_map.1 hx
  rw[←hld] at hn
  obtain⟨k,y,h1,h2,_⟩:=pk_mem hn
  rw[←h2]
  exact(HV.out.i.ob y (List.mem_of_getElem? h1)).id)
 have hln:l.length≤210:=by rw[←hld];exact Nat.le_trans (pkL_len _) HN.out
 rw[hld] at ho ⊢
 have HLD:=Lib.hid hld;have HRW:Hid (Rw ic 1 w1 (.slice da l.length dc) l):=Lib.hid (ho.rw ic_len);have HDL:Hid (∀q,(Value.slice da l.length dc).ownBlock=some q→w.heap.size+2≤q):=Lib.hid (fun q hq=>by have h1:=(ho.typ q hq).1;(have o0:=HC1.out;have o1:=HC2.out;have x0:=HXb.out.lt;have x1:=HXz.out.lt;omega))
 obtain⟨_,a9,c9,hv9,hlf⟩:=HRW.out.form
 simp only[Value.slice.injEq] at hv9
 obtain⟨rfl,hq9,rfl⟩:=hv9
 have HLF:=Lib.hid hlf;clear hb ho hld hq9 hlf;go_wp2_with fail
 go_loopw [9,19] (fun lv i wr=>BuL w1 l lv i wr) (fun _ i _=>l.length-(intOf i).toNat)
 case atStart=>exact⟨0,none,0,by omega,rfl,rfl,Below.refl _ _,Ow.nil _ _ _⟩
 case round=>
  obtain⟨k,la,lc,hk,rfl,rfl,hb,ho⟩:=hrel
  have HBR:=Lib.hid hb;have HOH:=Lib.hid ho;have HLK:Hid ((hpL (l.take k)).length≤210):=Lib.hid (by rw[hpL_len,List.length_take];omega);clear ho hb
  by_cases hkl:k<l.length
  case pos=>
   obtain⟨y,hy⟩:∃y,l[k]? =some y:=⟨_,List.getElem?_eq_getElem hkl⟩
   have HY:=Lib.hid hy;have HYES:=Lib.hid (hpL_next hy);clear hy
   obtain⟨b,off,rfl,hlb,hc⟩:=HLF.out (by omega)
   have e0:wr.cell? ⟨b,off+k,none⟩=some (.int .i64 y):=(HBR.out.cell (p:=⟨b,off+k,none⟩) hlb).trans (by have h:=hc k y HY.out 0 _ rfl;simpa using h);have i1:(0:Int)≤(k:Int):=by omega
   have i2:(k:Int)<(l.length:Int):=by omega
   clear hc hlb;go_wp2_with (at_builtin;refine wpList_append_ow (f:=hpc) (sz:=3) rfl _ _ 108 rfl w1.heap.size 110 (.agg #[.int .i64 0,.int .i64 0,.int .i64 0]) 24 Try.underlying108 infoHp rfl (by decide) _ (hpL (l.take k)) rfl (HOH.out.below ((Below.refl _ _).alloc (Nat.le_refl _) _)) hpc_ok _ [(⟨1,y,0⟩:Hp)] rfl (Rw.one2 (f:=hpc) (sz:=3) _ 110 (⟨1,y,0⟩:Hp) #[.int .i64 1,.int .i64 y,.int .i64 0] rfl 1 _ rfl) ?c2 ?c3 ?c4 ?_)
   case c2=>have:=HLK.out;simp[maxLen];omega
   case c3=>have:=HLK.out;simp;omega
   case c4=>have:=HBR.out.size;simp;omega
   intro v8 w8 ho8 hg8 hv8
   obtain⟨va,vc,rfl⟩:=ho8.form
   have hb8:Below w1.heap.size w1 w8:=(HBR.out.alloc HBR.out.size _).grown hg8 (by have:=HBR.out.size;simp;omega) (fun q hq=>(HOH.out.typ q hq).1);rw[←HYES.out] at ho8 ⊢
   have HO8:=Lib.hid ho8;have HB8:=Lib.hid hb8;clear ho8 hg8 hv8 hb8 e0;go_wp2_with fail
   go_roundw
   case rel=>exact⟨k+1,va,vc,by omega,by go_num,rfl,HB8.out,HO8.out⟩
   case measure=>simp[intOf];omega
  case neg=>
  obtain rfl:k=l.length:=by omega
  rw[List.take_length] at HOH HLK ⊢
  have hb:=HBR.out;replace HB:=Lib.hid (below_via HB.out hb);replace HXb:=Lib.hid (HXb.out.below hb);replace HXz:=Lib.hid (HXz.out.below hb);replace HRW:=Lib.hid (HRW.out.below hb);have HCQ:Hid (w1.heap.size≤wr.heap.size):=Lib.hid hb.size;have HLEN:Hid ((hpL l).length≤210):=HLK;clear hb HBR;go_wp2_with (first|(refine wpList_load_bx _ rfl rfl HXb.out (by kernel_rfl) ?_))
  with_reducible refine(collect_ok _ cs s B la lc (hpL l) t _ HT.out (HR.out.below HB.out) HV.out (HCS.out.below HB.out) HL.out (HOH.out.rw hpc_len) HLEN.out HID.out).mono ?_
  rintro e wt1 ⟨sc,rfl,ho,hb⟩;have HCt1:Hid (wr.heap.size≤wt1.heap.size):=Lib.hid (hb.size);replace HB:=Lib.hid (below_via HB.out hb);replace HXb:=Lib.hid (HXb.out.below hb);replace HXz:=Lib.hid (HXz.out.below hb);replace HRW:=Lib.hid (HRW.out.below hb);have HOc:=Lib.hid ho;clear ho hb;go_wp2_with (first|(refine wpList_store_bh (s:=sc) (B:=(coB B (allL cs B (hpL l)) t)) rfl _ _ rfl rfl rfl HXb.out rfl ?_))
  intro wt2 hw0;have hon:Onl [w.heap.size] wt1 wt2:=by rw[hw0.out];exact Onl.setRow (Onl.refl _ _) (.inl (by simp)) _
  have hx:Bx wt2 (w.heap.size) sc ((coB B (allL cs B (hpL l)) t)):=by rw[hw0.out];exact Bx.row HXb.out _ _
  clear hw0;replace HRW:=Lib.hid (HRW.out.onl hon (fun b hb=>by have h1:=HDL.out b hb;simp only[List.mem_singleton];omega));have hlo:w.heap.size≤w.heap.size:=by(have o0:=HC1.out;have o1:=HC2.out;have o2:=HCQ.out;have o3:=HCt1.out;have x0:=HXb.out.lt;have x1:=HXz.out.lt;omega)
  have hls:w.heap.size≤wt1.heap.size:=HB.out.size;replace HB:=Lib.hid (belowOnl HB.out hon (by simp only[List.mem_singleton,forall_eq];exact hlo) hls);replace HXz:=Lib.hid (HXz.out.onl hon (by simp only[List.mem_singleton];(have o0:=HC1.out;have o1:=HC2.out;have o2:=HCQ.out;have o3:=HCt1.out;have x0:=HXb.out.lt;have x1:=HXz.out.lt;omega)));replace HOc:=Lib.hid (HOc.out.onlB hon HXb.out);have HCt2:Hid (wt1.heap.size≤wt2.heap.size):=Lib.hid (hon.size);clear hlo hls;replace HXb:=Lib.hid hx;clear hx hon
  obtain⟨C,hC⟩:∃C,C=coB B (allL cs B (hpL l)) t:=⟨_,rfl⟩
  have HCV:Hid (VB C):=Lib.hid (by rw[hC];exact VB.co HV.out (fun x hx=>allL_Q HV.out x hx));have HCD:Hid (dyL (cs.map Prod.fst) C=l):=Lib.hid (by rw[hC];exact HLD.out);rw[←hC] at HXb HOc HBY
  have HO1:Hid (BdO w.heap.size wt2.heap.size wt2 sc C):=Lib.hid (HOc.out.mono (by(have o0:=HC1.out;have o1:=HC2.out;have o2:=HCQ.out;have o3:=HCt1.out;have o4:=HCt2.out;have x0:=HXb.out.lt;have x1:=HXz.out.lt;omega)) (by(have o0:=HC1.out;have o1:=HC2.out;have o2:=HCQ.out;have o3:=HCt1.out;have o4:=HCt2.out;have x0:=HXb.out.lt;have x1:=HXz.out.lt;omega)));have HWS:Hid (w.heap.size+2≤wt2.heap.size):=Lib.hid (by(have o0:=HC1.out;have o1:=HC2.out;have o2:=HCQ.out;have o3:=HCt1.out;have o4:=HCt2.out;have x0:=HXb.out.lt;have x1:=HXz.out.lt;omega));clear hC HOc HOH HR;go_wp2_with fail
  go_loopw [40] (fun i wr=>BuM w w.heap.size l mvI C (.slice da l.length dc) i wr) (fun i _=>l.length-(intOf i).toNat)
  case atStart=>exact⟨0,sc,by omega,rfl,HB.out,HXb.out,HXz.out,HO1.out,HRW.out⟩
  case round=>
   obtain⟨k,s',hk,rfl,hb,hx,hz,ho,hrw⟩:=hrel
   replace HB:=Lib.hid hb;replace HXb:=Lib.hid hx;replace HXz:=Lib.hid hz;replace HO1:=Lib.hid ho;replace HRW:=Lib.hid hrw;clear hb hx hz ho hrw HCQ
   by_cases hkl:k<l.length
   case pos=>
    obtain⟨_,a9,c9,hv9,hlf⟩:=HRW.out.form
    simp only[Value.slice.injEq] at hv9
    obtain⟨rfl,hq9,rfl⟩:=hv9
    replace HLF:=Lib.hid hlf
    obtain⟨C1,C2,i9,x,hc1,hc2,hv1,hi1,hly,how,hp2,hid,hmv⟩:=mvs_next (cs.map Prod.fst) HCV.out HND.out HCD.out hkl
    rw[hc1] at HXb HO1
    obtain⟨y,hy0⟩:∃y,x.id=y:=⟨_,rfl⟩
    have HY0:=Lib.hid hy0;rw[hy0] at hly
    have HY:=Lib.hid hly;have HC2:=Lib.hid hc2;have HV1:=Lib.hid hv1;have HI1:=Lib.hid hi1;have HHOW:=Lib.hid how;have HP2:=Lib.hid hp2;have HIDX:=Lib.hid hid;have HMV:=Lib.hid hmv;clear hq9 hlf hc1 hc2 hv1 hi1 hly how hp2 hid hmv hy0
    obtain⟨b,off,rfl,hlb,hc⟩:=HLF.out (by omega)
    have e0:wr.cell? ⟨b,off+k,none⟩=some (.int .i64 y):=((Below.refl wr.heap.size wr).cell (p:=⟨b,off+k,none⟩) hlb).trans (by have h:=hc k y HY.out 0 _ rfl;simpa using h);have i1:(0:Int)≤(k:Int):=by omega
    have i2:(k:Int)<(l.length:Int):=by omega
    clear hc hlb;have HWS0:Hid (w.heap.size≤wr.heap.size):=Lib.hid HB.out.size
    go_upto_region 12 with fail
    clear e0;go_wp2_with (first|(refine wpList_load_bx _ rfl rfl HXb.out (by kernel_rfl) ?_))
    rw[←HY0.out];with_reducible refine(bmove s' C1 i9 x x.ow.toNat _ HO1.out.rd HV1.out HI1.out HHOW.out HP2.out HIDX.out).mono ?_
    rintro e wq1 ⟨sd,rfl,ho,hb⟩;have HCq1:Hid (wr.heap.size≤wq1.heap.size):=Lib.hid (hb.size);replace HB:=Lib.hid (below_via HB.out hb);replace HXb:=Lib.hid (HXb.out.below hb);replace HXz:=Lib.hid (HXz.out.below hb);replace HRW:=Lib.hid (HRW.out.below hb);have HOd:=Lib.hid ho;clear ho hb;go_wp2_with (first|(refine wpList_store_bh (s:=sd) (B:=(mvB C1 i9 x x.ow.toNat 3)) rfl _ _ rfl rfl rfl HXb.out rfl ?_))
    intro wq2 hw0;have hon:Onl [w.heap.size] wq1 wq2:=by rw[hw0.out];exact Onl.setRow (Onl.refl _ _) (.inl (by simp)) _
    have hx:Bx wq2 (w.heap.size) sd ((mvB C1 i9 x x.ow.toNat 3)):=by rw[hw0.out];exact Bx.row HXb.out _ _
    clear hw0;replace HRW:=Lib.hid (HRW.out.onl hon (fun b hb=>by have h1:=HDL.out b hb;simp only[List.mem_singleton];omega));have hlo:w.heap.size≤w.heap.size:=by(have o0:=HWS0.out;have o1:=HCq1.out;have x0:=HXb.out.lt;have x1:=HXz.out.lt;omega)
    have hls:w.heap.size≤wq1.heap.size:=HB.out.size;replace HB:=Lib.hid (belowOnl HB.out hon (by simp only[List.mem_singleton,forall_eq];exact hlo) hls);replace HXz:=Lib.hid (HXz.out.onl hon (by simp only[List.mem_singleton];(have o0:=HWS0.out;have o1:=HCq1.out;have x0:=HXb.out.lt;have x1:=HXz.out.lt;omega)));replace HOd:=Lib.hid (HOd.out.onlB hon HXb.out);have HCq2:Hid (wq1.heap.size≤wq2.heap.size):=Lib.hid (hon.size);clear hlo hls;replace HXb:=Lib.hid hx;clear hx hon;have HOD:Hid (BdO w.heap.size wq2.heap.size wq2 sd (mvB C1 i9 x x.ow.toNat 3)):=Lib.hid (HOd.out.mono (by(have o0:=HWS0.out;have o1:=HCq1.out;have o2:=HCq2.out;have x0:=HXb.out.lt;have x1:=HXz.out.lt;omega)) (by(have o0:=HWS0.out;have o1:=HCq1.out;have o2:=HCq2.out;have x0:=HXb.out.lt;have x1:=HXz.out.lt;omega)));rw[HMV.out,←HC2.out] at HXb HOD
    clear HOd;go_wp2_with fail
    go_roundw
    case rel=>exact⟨k+1,sd,by omega,by go_num,HB.out,HXb.out,HXz.out,HOD.out,HRW.out⟩
    case measure=>simp[intOf];omega
   case neg=>
   obtain rfl:k=l.length:=by omega
   rw[List.take_length] at HXb HO1
   rw[←HBY.out] at HXb HO1
   have HWS0:Hid (w.heap.size≤wr.heap.size):=Lib.hid HB.out.size;clear HRW HLF;go_wp2_with (first|(refine wpList_load_bx _ rfl rfl HXb.out (by kernel_rfl) ?_)|(refine wpList_store_bh (s:=s') (B:=(byB cs B t)) rfl _ _ rfl rfl rfl HXz.out rfl ?_;intro we1 hw9))
   have hg9:Bx we1 (w.heap.size+1) s' ((byB cs B t)):=by rw[hw9.out];exact Bx.row HXz.out _ _
   have ho9:Onl [w.heap.size+1] wr we1:=by rw[hw9.out];exact Onl.setRow (Onl.refl _ _) (.inl (by simp)) _
   have hlo:w.heap.size≤w.heap.size+1:=by(have o0:=HWS0.out;have x0:=HXb.out.lt;have x1:=HXz.out.lt;omega)
   have hb9:Below w.heap.size w we1:=belowOnl HB.out ho9 (by simp only[List.mem_singleton,forall_eq];exact hlo) HB.out.size;have HG9:=Lib.hid hg9;have HPOST:Hid (BrA w ((byB cs B t)) (.int .i64 ((dyL (cs.map Prod.fst) B).length:Nat)) (.returned (.tuple #[bv s' ((byB cs B t)),.int .i64 (l.length:Nat)])) we1):=Lib.hid (by rw[HLD.out];exact⟨_,rfl,(HO1.out.onlB ho9 HXz.out).mono (by(have o0:=HWS0.out;have x0:=HXb.out.lt;have x1:=HXz.out.lt;omega)) (by have h9:=ho9.size;(have o0:=HWS0.out;have x0:=HXb.out.lt;have x1:=HXz.out.lt;omega)),hb9⟩);clear hw9 hg9 ho9 hb9 hlo;go_wp2_with fail
   exact bodyPost_ret (v:= .tuple #[bv s' ((byB cs B t)),.int .i64 (l.length:Nat)]) (results_b1 Try.results23 _ _ HG9.out rfl rfl) rfl HPOST.out
set_option maxRecDepth 100000 in
set_option maxHeartbeats 4000000 in
theorem bsweep(s:Bs)(B:Bd)(lo hi:Nat)(w:World)(h:BdO lo hi w s B)(hlo:lo≤w.heap.size)(hhi:hi≤w.heap.size)(hv:VB B):Calls Try.prog 24 #[bv s B] w (SwA lo w (swB B) (goL B).length):=by
 have HO:=Lib.hid h;have HV:=Lib.hid hv;have HLO:Hid (lo≤w.heap.size):=Lib.hid hlo;have HHI:Hid (hi≤w.heap.size):=Lib.hid hhi;clear h hv hlo hhi;go_enter Try.func24,Try.ntmps24
 go_upto_region 1 with fail
 change Code.wp Try.prog _ _ _ ((w.alloc (.cells (bcells s B) 34)).alloc (.cells (bcells nilS zeroB) 34))
 obtain⟨wz,hwz⟩:∃W,W=((w.alloc (.cells (bcells s B) 34)).alloc (.cells (bcells nilS zeroB) 34)):=⟨_,rfl⟩
 rw[←hwz];have b0:Below w.heap.size w (w.alloc (.cells (bcells s B) 34)):=by exact(Below.refl _ _).alloc (Nat.le_refl _) _
 have b1:Below (w.alloc (.cells (bcells s B) 34)).heap.size (w.alloc (.cells (bcells s B) 34)) wz:=by rw[hwz];exact(Below.refl _ _).alloc (Nat.le_refl _) _
 have HB:Hid (Below w.heap.size w wz):=Lib.hid (below_via b0 b1);have HXb:Hid (Bx wz (w.heap.size) s B):=Lib.hid ((Ro.new w (bcells s B) 34).below b1:Ro _ _ _ _);have HXz:Hid (Bx wz (w.heap.size+1) nilS zeroB):=Lib.hid (by rw[show w.heap.size+1=(w.alloc (.cells (bcells s B) 34)).heap.size by simp];exact(by rw[hwz];exact(Ro.new (w.alloc (.cells (bcells s B) 34)) (bcells nilS zeroB) 34)));have HC1:Hid (w.heap.size+2≤wz.heap.size):=Lib.hid (by rw[hwz];simp);clear hwz b0 b1;go_wp2_with (first|(refine wpList_load_bx _ rfl rfl HXb.out (by kernel_rfl) ?_))
 with_reducible refine(bgone s B _ (HO.out.rd.below HB.out) HV.out).mono ?_
 rintro e w1 ⟨da,dc,rfl,ho,hb⟩;have HC2:Hid (wz.heap.size≤w1.heap.size):=Lib.hid (hb.size);replace HB:=Lib.hid (below_via HB.out hb);replace HXb:=Lib.hid (HXb.out.below hb);replace HXz:=Lib.hid (HXz.out.below hb)
 obtain⟨l,hld⟩:∃l,goL B=l:=⟨_,rfl⟩
 have HSW:Hid (swB B=l.foldl rmI B):=Lib.hid (by unfold swB;rw[hld]);have HND:Hid (l.Nodup):=Lib.hid (by rw[←hld];exact pk_nodup HV.out _);have hln:l.length≤1000:=by rw[←hld];exact Nat.le_trans (pkL_len _) HV.out.sm.ob
 rw[hld] at ho ⊢
 have HLD:=Lib.hid hld;have HRW:Hid (Rw ic 1 w1 (.slice da l.length dc) l):=Lib.hid (ho.rw ic_len);have HDL:Hid (∀q,(Value.slice da l.length dc).ownBlock=some q→w.heap.size+2≤q):=Lib.hid (fun q hq=>by have h1:=(ho.typ q hq).1;(have o0:=HC1.out;have o1:=HC2.out;have x0:=HXb.out.lt;have x1:=HXz.out.lt;omega));have HO1:Hid (BdO lo w1.heap.size w1 s B):=Lib.hid ((HO.out.below HB.out).mono (Nat.le_refl _) (Nat.le_trans HHI.out HB.out.size));clear hb ho hld HO HC1 HC2;go_wp2_with fail
 go_loopw [11] (fun i wr=>BuM w lo l rmI B (.slice da l.length dc) i wr) (fun i _=>l.length-(intOf i).toNat)
 case atStart=>exact⟨0,s,by omega,rfl,HB.out,HXb.out,HXz.out,HO1.out,HRW.out⟩
 case round=>
  obtain⟨k,s',hk,rfl,hb,hx,hz,ho,hrw⟩:=hrel
  replace HB:=Lib.hid hb;replace HXb:=Lib.hid hx;replace HXz:=Lib.hid hz;replace HO1:=Lib.hid ho;replace HRW:=Lib.hid hrw;clear hb hx hz ho hrw
  by_cases hkl:k<l.length
  case pos=>
   obtain⟨_,a9,c9,hv9,hlf⟩:=HRW.out.form
   simp only[Value.slice.injEq] at hv9
   obtain⟨rfl,hq9,rfl⟩:=hv9
   have HLF:=Lib.hid hlf
   obtain⟨C1,C2,i9,x,hc1,hc2,hv1,hi1,hly,hid,hmv⟩:=rms_next HV.out HND.out HLD.out hkl
   rw[hc1] at HXb HO1
   obtain⟨y,hy0⟩:∃y,x.id=y:=⟨_,rfl⟩
   have HY0:=Lib.hid hy0;rw[hy0] at hly
   have HY:=Lib.hid hly;have HC2:=Lib.hid hc2;have HV1:=Lib.hid hv1;have HI1:=Lib.hid hi1;have HIDX:=Lib.hid hid;have HMV:=Lib.hid hmv;clear hq9 hlf hc1 hc2 hv1 hi1 hly hid hmv hy0
   obtain⟨b,off,rfl,hlb,hc⟩:=HLF.out (by omega)
   have e0:wr.cell? ⟨b,off+k,none⟩=some (.int .i64 y):=((Below.refl wr.heap.size wr).cell (p:=⟨b,off+k,none⟩) hlb).trans (by have h:=hc k y HY.out 0 _ rfl;simpa using h);have i1:(0:Int)≤(k:Int):=by omega
   have i2:(k:Int)<(l.length:Int):=by omega
   clear hc hlb;have HWS0:Hid (w.heap.size≤wr.heap.size):=Lib.hid HB.out.size
   go_upto_region 5 with fail
   clear e0;go_wp2_with (first|(refine wpList_load_bx _ rfl rfl HXb.out (by kernel_rfl) ?_))
   rw[←HY0.out];with_reducible refine(bremove s' C1 i9 x _ HO1.out.rd HV1.out HI1.out HIDX.out).mono ?_
   rintro e wq1 ⟨sd,rfl,ho,hb⟩;have HCq1:Hid (wr.heap.size≤wq1.heap.size):=Lib.hid (hb.size);replace HB:=Lib.hid (below_via HB.out hb);replace HXb:=Lib.hid (HXb.out.below hb);replace HXz:=Lib.hid (HXz.out.below hb);replace HRW:=Lib.hid (HRW.out.below hb);have HOd:=Lib.hid ho;clear ho hb;go_wp2_with (first|(refine wpList_store_bh (s:=sd) (B:=(rmB C1 i9 x.id)) rfl _ _ rfl rfl rfl HXb.out rfl ?_))
   intro wq2 hw0;have hon:Onl [w.heap.size] wq1 wq2:=by rw[hw0.out];exact Onl.setRow (Onl.refl _ _) (.inl (by simp)) _
   have hx:Bx wq2 (w.heap.size) sd ((rmB C1 i9 x.id)):=by rw[hw0.out];exact Bx.row HXb.out _ _
   clear hw0;replace HRW:=Lib.hid (HRW.out.onl hon (fun b hb=>by have h1:=HDL.out b hb;simp only[List.mem_singleton];omega));have hlo:w.heap.size≤w.heap.size:=by(have o0:=HWS0.out;have o1:=HLO.out;have o2:=HCq1.out;have x0:=HXb.out.lt;have x1:=HXz.out.lt;omega)
   have hls:w.heap.size≤wq1.heap.size:=HB.out.size;replace HB:=Lib.hid (belowOnl HB.out hon (by simp only[List.mem_singleton,forall_eq];exact hlo) hls);replace HXz:=Lib.hid (HXz.out.onl hon (by simp only[List.mem_singleton];(have o0:=HWS0.out;have o1:=HLO.out;have o2:=HCq1.out;have x0:=HXb.out.lt;have x1:=HXz.out.lt;omega)));replace HOd:=Lib.hid (HOd.out.onlB hon HXb.out);have HCq2:Hid (wq1.heap.size≤wq2.heap.size):=Lib.hid (hon.size);clear hlo hls;replace HXb:=Lib.hid hx;clear hx hon;have HOD:Hid (BdO lo wq2.heap.size wq2 sd (rmB C1 i9 x.id)):=Lib.hid (HOd.out.mono (by(have o0:=HWS0.out;have o1:=HLO.out;have o2:=HCq1.out;have o3:=HCq2.out;have x0:=HXb.out.lt;have x1:=HXz.out.lt;omega)) (by(have o0:=HWS0.out;have o1:=HLO.out;have o2:=HCq1.out;have o3:=HCq2.out;have x0:=HXb.out.lt;have x1:=HXz.out.lt;omega)));rw[HMV.out,←HC2.out] at HXb HOD
   clear HOd;go_wp2_with fail
   go_roundw
   case rel=>exact⟨k+1,sd,by omega,by go_num,HB.out,HXb.out,HXz.out,HOD.out,HRW.out⟩
   case measure=>simp[intOf];omega
  case neg=>
  obtain rfl:k=l.length:=by omega
  rw[List.take_length] at HXb HO1
  rw[←HSW.out] at HXb HO1
  have HWS0:Hid (w.heap.size≤wr.heap.size):=Lib.hid HB.out.size;clear HRW;go_wp2_with (first|(refine wpList_load_bx _ rfl rfl HXb.out (by kernel_rfl) ?_)|(refine wpList_store_bh (s:=s') (B:=(swB B)) rfl _ _ rfl rfl rfl HXz.out rfl ?_;intro we1 hw9))
  have hg9:Bx we1 (w.heap.size+1) s' ((swB B)):=by rw[hw9.out];exact Bx.row HXz.out _ _
  have ho9:Onl [w.heap.size+1] wr we1:=by rw[hw9.out];exact Onl.setRow (Onl.refl _ _) (.inl (by simp)) _
  have hlo:w.heap.size≤w.heap.size+1:=by(have o0:=HWS0.out;have o1:=HLO.out;have x0:=HXb.out.lt;have x1:=HXz.out.lt;omega)
  have hb9:Below w.heap.size w we1:=belowOnl HB.out ho9 (by simp only[List.mem_singleton,forall_eq];exact hlo) HB.out.size;have HG9:=Lib.hid hg9;have HPOST:Hid (SwA lo w (swB B) (goL B).length (.returned (.tuple #[bv s' ((swB B)),.int .i64 (l.length:Nat)])) we1):=Lib.hid (by rw[HLD.out];exact⟨_,rfl,(HO1.out.onlB ho9 HXz.out).mono (by(have o0:=HWS0.out;have o1:=HLO.out;have x0:=HXb.out.lt;have x1:=HXz.out.lt;omega)) (by have h9:=ho9.size;(have o0:=HWS0.out;have o1:=HLO.out;have x0:=HXb.out.lt;have x1:=HXz.out.lt;omega)),hb9⟩);clear hw9 hg9 ho9 hb9 hlo;go_wp2_with fail
  exact bodyPost_ret (v:= .tuple #[bv s' ((swB B)),.int .i64 (l.length:Nat)]) (results_b1 Try.results24 _ _ HG9.out rfl rfl) rfl HPOST.out
end Go.Proofs.Ytpbepnpnpopmfaa
