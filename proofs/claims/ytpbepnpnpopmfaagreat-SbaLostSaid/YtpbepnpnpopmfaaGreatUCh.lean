/- All that must die is buried, all tokens that must go are swept, by the code. All state-based actions, by the code. -/
import Derived.Test.YtpbepnpnpopmfaaGreatUVe
import Derived.Test.YtpbepnpnpopmfaaGreatUMv
import Derived.Test.YtpbepnpnpopmfaaGreatURm
import Derived.Test.YtpbepnpnpopmfaaGreatTCo
import Derived.Test.YtpbepnpnpopmfaaGreatTOg
import Derived.Deep.DeepCutAuto
import Derived.LoopTactic
import Derived.Deep.MidRow
open Go.RowKit Go.Proofs.YtpbepnpnpopmfaaGreat
set_option maxRecDepth 100000
set_option maxHeartbeats 4000000
namespace Go.Proofs.YtpbepnpnpopmfaaGreat
open Plain
set_option linter.unusedVariables false
set_option linter.unusedSimpArgs false

theorem infoHp:(Tryz.prog.info? 95).map (fun i=>(i.zero,i.size,i.bytes))=some (some (.agg #[.int .i64 0,.int .i64 0,.int .i64 0]),3,24):=by kernel_rfl
def Plain.hpL(l:List Int):List Hp:=l.map (fun n=>⟨1,n,0⟩)
theorem hpL_next{l:List Int}{k:Nat}{n:Int}(h:l[k]? =some n):hpL (l.take (k+1))=hpL (l.take k)++[⟨1,n,0⟩]:=by
 unfold hpL;rw[List.take_add_one,h,List.map_append]
 rfl
theorem hpL_len(l:List Int):(hpL l).length=l.length:=List.length_map _
def Plain.byB(cs:List (Cd×List (Int×Nat)))(B:Bd)(t:Int):Bd:=buB (cs.map Prod.fst) B (allL cs B (hpL (dyL (cs.map Prod.fst) B))) t
def Plain.ckB(cs:List (Cd×List (Int×Nat)))(B:Bd)(t:Int):Bd:=swB (byB cs B t)
def Plain.ckN(cs:List (Cd×List (Int×Nat)))(B:Bd)(t:Int):Nat:=(dyL (cs.map Prod.fst) B).length+(goL (byB cs B t)).length
theorem byB_ok(cs:List (Cd×List (Int×Nat))){B:Bd}(h:VB B)(t:Int):VB (byB cs B t)/\dyL (cs.map Prod.fst) (byB cs B t)=[]:=buB_ok _ h (fun x hx=>allL_Q h x hx) t
theorem ckB_ok(cs:List (Cd×List (Int×Nat))){B:Bd}(h:VB B)(t:Int):VB (ckB cs B t)/\goL (ckB cs B t)=[]/\dyL (cs.map Prod.fst) (ckB cs B t)=[]:=swB_ok _ (byB_ok cs h t).1 (byB_ok cs h t).2
theorem byB_nil{cs:List (Cd×List (Int×Nat))}{B:Bd}(h:dyL (cs.map Prod.fst) B=[])(t:Int):byB cs B t=B:=by
 unfold byB;rw[h];exact buB_nil h t
theorem ckB_nil{cs:List (Cd×List (Int×Nat))}{B:Bd}(h:dyL (cs.map Prod.fst) B=[])(hg:goL B=[])(t:Int):ckB cs B t=B:=by
 unfold ckB;rw[byB_nil h];exact swB_nil hg
theorem ckN_nil{cs:List (Cd×List (Int×Nat))}{B:Bd}(h:dyL (cs.map Prod.fst) B=[])(hg:goL B=[])(t:Int):ckN cs B t=0:=by
 unfold ckN;rw[byB_nil h,h,hg]
 rfl
theorem ckN_zero{cs:List (Cd×List (Int×Nat))}{B:Bd}{t:Int}(h:ckN cs B t=0):dyL (cs.map Prod.fst) B=[]/\goL B=[]:=by
 unfold ckN at h
 have h1:dyL (cs.map Prod.fst) B=[]:=List.eq_nil_of_length_eq_zero (by omega);rw[byB_nil h1] at h
 exact⟨h1,List.eq_nil_of_length_eq_zero (by omega)⟩
def BuL(w:World)(l:List Int)(lv i:Value)(wr:World):Prop:=∃(k:Nat) (a:Option Addr) (c:Nat),k<=l.length/\i= .int .i64 k/\lv= .slice a (hpL (l.take k)).length c/\Below w.heap.size w wr/\Ow hpc 3 95 wr w.heap.size (.slice a (hpL (l.take k)).length c) (hpL (l.take k))
def BuM(w:World)(lo:Nat)(l:List Int)(f:Bd->Int->Bd)(B:Bd)(lv:Value)(i:Value)(wr:World):Prop:=∃(k:Nat) (s':Bs),k<=l.length/\i= .int .i64 k/\Below w.heap.size w wr/\Bx wr w.heap.size s' ((l.take k).foldl f B)/\Bx wr (w.heap.size+1) nilS zeroB/\BdO lo wr.heap.size wr s' ((l.take k).foldl f B)/\Rw ic 1 wr lv l
def SwA(lo:Nat)(w:World)(B:Bd)(n:Nat)(e:Ending)(w':World):Prop:=∃s',e= .returned (.tuple #[bv s' B,.int .i64 n])/\BdO lo w'.heap.size w' s' B/\Below w.heap.size w w'
theorem bbury(v:Value)(cs:List (Cd×List (Int×Nat)))(s:Bs)(B:Bd)(t:Int)(w:World)(hc:CsR w v cs)(hci:CI (cs.map Prod.fst))(hl:Lt cs)(h:BdR w s B)(hv:VB B)(ht:0<=t)(hn:B.ob.length<=210):Calls Tryz.prog 34 #[v,bv s B,.int .i64 t] w (BrA w (byB cs B t) (.int .i64 ((dyL (cs.map Prod.fst) B).length:Nat))):=by
 have HCS:=Hd hc;have HCI:=Hd hci;have HL:=Hd hl;have HR:=Hd h;have HV:=Hd hv;have HT:=Hd ht;have HN:=Hd hn;clear h hv ht hn hc hci hl;go_enter Tryz.func34,Tryz.ntmps34
 go_upto_region 1 with fail
 change Code.wp Tryz.prog _ _ _ ((w.alloc (.cells (bcells s B) 34)).alloc (.cells (bcells nilS zeroB) 34))
 obtain⟨wz,hwz⟩:∃W,W=((w.alloc (.cells (bcells s B) 34)).alloc (.cells (bcells nilS zeroB) 34)):=⟨_,rfl⟩
 rw[<-hwz];have b0:Below w.heap.size w (w.alloc (.cells (bcells s B) 34)):=by exact(Below.refl _ _).alloc (Nat.le_refl _) _
 have b1:Below (w.alloc (.cells (bcells s B) 34)).heap.size (w.alloc (.cells (bcells s B) 34)) wz:=by rw[hwz];exact(Below.refl _ _).alloc (Nat.le_refl _) _
 have HB:Hid (Below w.heap.size w wz):=Hd (below_via b0 b1);have HXb:Hid (Bx wz (w.heap.size) s B):=Hd ((Ro.new w (bcells s B) 34).below b1:Ro _ _ _ _);have HXz:Hid (Bx wz (w.heap.size+1) nilS zeroB):=Hd (by rw[show w.heap.size+1=(w.alloc (.cells (bcells s B) 34)).heap.size by simp];exact(by rw[hwz];exact(Ro.new (w.alloc (.cells (bcells s B) 34)) (bcells nilS zeroB) 34)));have HC1:Hid (w.heap.size+2<=wz.heap.size):=Hd (by rw[hwz];simp);clear hwz b0 b1;go_wp2_with (first|(refine wpList_load_bx _ rfl rfl HXb.o (by kernel_rfl) ?_))
 with_reducible refine(bdying _ (cs.map Prod.fst) s B _ (HCS.o.row.below HB.o) HCI.o (HR.o.below HB.o) HV.o).mono ?_
 rintro e w1 ⟨da,dc,rfl,ho,hb⟩;have HC2:Hid (wz.heap.size<=w1.heap.size):=Hd (hb.size);replace HB:=Hd (below_via HB.o hb);replace HXb:=Hd (HXb.o.below hb);replace HXz:=Hd (HXz.o.below hb)
 obtain⟨l,hld⟩:∃l,dyL (cs.map Prod.fst) B=l:=⟨_,rfl⟩
 have HBY:Hid (byB cs B t=l.foldl mvI (coB B (allL cs B (hpL l)) t)):=Hd (by unfold byB buB;rw[hld]);have HND:Hid (l.Nodup):=Hd (by rw[<-hld];exact pk_nodup HV.o _)
 have HID:Hid (∀x∈hpL l,Plain.I x.id):=Hd (fun x hx=>by
  obtain⟨n,hn,rfl⟩:=List.mem_map.1 hx
  rw[<-hld] at hn
  obtain⟨k,y,h1,h2,_⟩:=pk_mem hn
  rw[<-h2]
  exact(HV.o.i.ob y (List.mem_of_getElem? h1)).id)
 have hln:l.length<=210:=by rw[<-hld];exact Nat.le_trans (pkL_len _) HN.o
 rw[hld] at ho ⊢
 have HLD:=Hd hld;have HRW:Hid (Rw ic 1 w1 (.slice da l.length dc) l):=Hd (ho.rw ic_len);have HDL:Hid (∀q,(Value.slice da l.length dc).ownBlock=some q->w.heap.size+2<=q):=Hd (fun q hq=>by have h1:=(ho.typ q hq).1;(have o0:=HC1.o;have o1:=HC2.o;have x0:=HXb.o.lt;have x1:=HXz.o.lt;omega))
 obtain⟨_,a9,c9,hv9,hlf⟩:=HRW.o.form
 simp only[Value.slice.injEq] at hv9
 obtain⟨rfl,hq9,rfl⟩:=hv9
 have HLF:=Hd hlf;clear hb ho hld hq9 hlf;go_wp2_with fail
 go_loopw [9,19] (fun lv i wr=>BuL w1 l lv i wr) (fun _ i _=>l.length-(intOf i).toNat)
 case atStart=>exact⟨0,none,0,by omega,rfl,rfl,Below.refl _ _,Ow.nil _ _ _⟩
 obtain⟨k,la,lc,hk,rfl,rfl,hb,ho⟩:=hrel
 have HBR:=Hd hb;have HOH:=Hd ho;have HLK:Hid ((hpL (l.take k)).length<=210):=Hd (by rw[hpL_len,List.length_take];omega);clear ho hb
 by_cases hkl:k<l.length
 case pos=>
  obtain⟨y,hy⟩:∃y,l[k]? =some y:=⟨_,List.getElem?_eq_getElem hkl⟩
  have HY:=Hd hy;have HYES:=Hd (hpL_next hy);clear hy
  obtain⟨b,off,rfl,hlb,hc⟩:=HLF.o (by omega)
  have e0:wr.cell? ⟨b,off+k,none⟩=some (.int .i64 y):=(HBR.o.cell (p:=⟨b,off+k,none⟩) hlb).trans (by have h:=hc k y HY.o 0 _ rfl;simpa using h);have i1:(0:Int)<=(k:Int):=by omega
  have i2:(k:Int)<(l.length:Int):=by omega
  clear hc hlb;go_wp2_with (at_builtin;refine wpList_append_ow (f:=hpc) (sz:=3) rfl _ _ 93 rfl w1.heap.size 95 (.agg #[.int .i64 0,.int .i64 0,.int .i64 0]) 24 Tryz.underlying93 infoHp rfl (by decide) _ (hpL (l.take k)) rfl (HOH.o.below ((Below.refl _ _).alloc (Nat.le_refl _) _)) hpc_ok _ [(⟨1,y,0⟩:Hp)] rfl (Rw.one2 (f:=hpc) (sz:=3) _ 95 (⟨1,y,0⟩:Hp) #[.int .i64 1,.int .i64 y,.int .i64 0] rfl 1 _ rfl) ?c2 ?c3 ?c4 ?_)
  case c2=>have:=HLK.o;simp[maxLen];omega
  case c3=>have:=HLK.o;simp;omega
  case c4=>have:=HBR.o.size;simp;omega
  intro v8 w8 ho8 hg8 hv8
  obtain⟨va,vc,rfl⟩:=ho8.form
  have hb8:Below w1.heap.size w1 w8:=(HBR.o.alloc HBR.o.size _).grown hg8 (by have:=HBR.o.size;simp;omega) (fun q hq=>(HOH.o.typ q hq).1);rw[<-HYES.o] at ho8 ⊢
  have HO8:=Hd ho8;have HB8:=Hd hb8;clear ho8 hg8 hv8 hb8 e0;go_wp2_with fail
  go_roundw
  case rel=>exact⟨k+1,va,vc,by omega,by go_num,rfl,HB8.o,HO8.o⟩
  case measure=>simp[intOf];omega
 case neg=>
 obtain rfl:k=l.length:=by omega
 rw[List.take_length] at HOH HLK ⊢
 have hb:=HBR.o;replace HB:=Hd (below_via HB.o hb);replace HXb:=Hd (HXb.o.below hb);replace HXz:=Hd (HXz.o.below hb);replace HRW:=Hd (HRW.o.below hb);have HCQ:Hid (w1.heap.size<=wr.heap.size):=Hd hb.size;have HLEN:Hid ((hpL l).length<=210):=HLK;clear hb HBR;go_wp2_with (first|(refine wpList_load_bx _ rfl rfl HXb.o (by kernel_rfl) ?_))
 with_reducible refine(collect_ok _ cs s B la lc (hpL l) t _ HT.o (HR.o.below HB.o) HV.o (HCS.o.below HB.o) HL.o (HOH.o.rw hpc_len) HLEN.o HID.o).mono ?_
 rintro e wt1 ⟨sc,rfl,ho,hb⟩;have HCt1:Hid (wr.heap.size<=wt1.heap.size):=Hd (hb.size);replace HB:=Hd (below_via HB.o hb);replace HXb:=Hd (HXb.o.below hb);replace HXz:=Hd (HXz.o.below hb);replace HRW:=Hd (HRW.o.below hb);have HOc:=Hd ho;clear ho hb;go_wp2_with (first|(refine wpList_store_bh (s:=sc) (B:=(coB B (allL cs B (hpL l)) t)) rfl _ _ rfl rfl rfl HXb.o rfl ?_))
 intro wt2 hw0;have hon:Onl [w.heap.size] wt1 wt2:=by rw[hw0.out];exact Onl.setRow (Onl.refl _ _) (.inl (by simp)) _
 have hx:Bx wt2 (w.heap.size) sc ((coB B (allL cs B (hpL l)) t)):=by rw[hw0.out];exact Bx.row HXb.o _ _
 clear hw0;replace HRW:=Hd (HRW.o.onl hon (fun b hb=>by have h1:=HDL.o b hb;simp only[List.mem_singleton];omega));have hlo:w.heap.size<=w.heap.size:=by(have o0:=HC1.o;have o1:=HC2.o;have o2:=HCQ.o;have o3:=HCt1.o;have x0:=HXb.o.lt;have x1:=HXz.o.lt;omega)
 have hls:w.heap.size<=wt1.heap.size:=HB.o.size;replace HB:=Hd (belowOnl HB.o hon (by simp only[List.mem_singleton,forall_eq];exact hlo) hls);replace HXz:=Hd (HXz.o.onl hon (by simp only[List.mem_singleton];(have o0:=HC1.o;have o1:=HC2.o;have o2:=HCQ.o;have o3:=HCt1.o;have x0:=HXb.o.lt;have x1:=HXz.o.lt;omega)));replace HOc:=Hd (HOc.o.onlB hon HXb.o);have HCt2:Hid (wt1.heap.size<=wt2.heap.size):=Hd (hon.size);clear hlo hls;replace HXb:=Hd hx;clear hx hon
 obtain⟨C,hC⟩:∃C,C=coB B (allL cs B (hpL l)) t:=⟨_,rfl⟩
 have HCV:Hid (VB C):=Hd (by rw[hC];exact VB.co HV.o (fun x hx=>allL_Q HV.o x hx));have HCD:Hid (dyL (cs.map Prod.fst) C=l):=Hd (by rw[hC];exact HLD.o);rw[<-hC] at HXb HOc HBY
 have HO1:Hid (BdO w.heap.size wt2.heap.size wt2 sc C):=Hd (HOc.o.mono (by(have o0:=HC1.o;have o1:=HC2.o;have o2:=HCQ.o;have o3:=HCt1.o;have o4:=HCt2.o;have x0:=HXb.o.lt;have x1:=HXz.o.lt;omega)) (by(have o0:=HC1.o;have o1:=HC2.o;have o2:=HCQ.o;have o3:=HCt1.o;have o4:=HCt2.o;have x0:=HXb.o.lt;have x1:=HXz.o.lt;omega)));have HWS:Hid (w.heap.size+2<=wt2.heap.size):=Hd (by(have o0:=HC1.o;have o1:=HC2.o;have o2:=HCQ.o;have o3:=HCt1.o;have o4:=HCt2.o;have x0:=HXb.o.lt;have x1:=HXz.o.lt;omega));clear hC HOc HOH HR;go_wp2_with fail
 go_loopw [40] (fun i wr=>BuM w w.heap.size l mvI C (.slice da l.length dc) i wr) (fun i _=>l.length-(intOf i).toNat)
 case atStart=>exact⟨0,sc,by omega,rfl,HB.o,HXb.o,HXz.o,HO1.o,HRW.o⟩
 obtain⟨k,s',hk,rfl,hb,hx,hz,ho,hrw⟩:=hrel
 replace HB:=Hd hb;replace HXb:=Hd hx;replace HXz:=Hd hz;replace HO1:=Hd ho;replace HRW:=Hd hrw;clear hb hx hz ho hrw HCQ
 by_cases hkl:k<l.length
 case pos=>
  obtain⟨_,a9,c9,hv9,hlf⟩:=HRW.o.form
  simp only[Value.slice.injEq] at hv9
  obtain⟨rfl,hq9,rfl⟩:=hv9
  replace HLF:=Hd hlf
  obtain⟨C1,C2,i9,x,hc1,hc2,hv1,hi1,hly,how,hp2,hid,hmv⟩:=mvs_next (cs.map Prod.fst) HCV.o HND.o HCD.o hkl
  rw[hc1] at HXb HO1
  obtain⟨y,hy0⟩:∃y,x.id=y:=⟨_,rfl⟩
  have HY0:=Hd hy0;rw[hy0] at hly
  have HY:=Hd hly;have HC2:=Hd hc2;have HV1:=Hd hv1;have HI1:=Hd hi1;have HHOW:=Hd how;have HP2:=Hd hp2;have HIDX:=Hd hid;have HMV:=Hd hmv;clear hq9 hlf hc1 hc2 hv1 hi1 hly how hp2 hid hmv hy0
  obtain⟨b,off,rfl,hlb,hc⟩:=HLF.o (by omega)
  have e0:wr.cell? ⟨b,off+k,none⟩=some (.int .i64 y):=((Below.refl wr.heap.size wr).cell (p:=⟨b,off+k,none⟩) hlb).trans (by have h:=hc k y HY.o 0 _ rfl;simpa using h);have i1:(0:Int)<=(k:Int):=by omega
  have i2:(k:Int)<(l.length:Int):=by omega
  clear hc hlb;have HWS0:Hid (w.heap.size<=wr.heap.size):=Hd HB.o.size
  go_upto_region 12 with fail
  clear e0;go_wp2_with (first|(refine wpList_load_bx _ rfl rfl HXb.o (by kernel_rfl) ?_))
  rw[<-HY0.o];with_reducible refine(bmove s' C1 i9 x x.ow.toNat _ HO1.o.rd HV1.o HI1.o HHOW.o HP2.o HIDX.o).mono ?_
  rintro e wq1 ⟨sd,rfl,ho,hb⟩;have HCq1:Hid (wr.heap.size<=wq1.heap.size):=Hd (hb.size);replace HB:=Hd (below_via HB.o hb);replace HXb:=Hd (HXb.o.below hb);replace HXz:=Hd (HXz.o.below hb);replace HRW:=Hd (HRW.o.below hb);have HOd:=Hd ho;clear ho hb;go_wp2_with (first|(refine wpList_store_bh (s:=sd) (B:=(mvB C1 i9 x x.ow.toNat 3)) rfl _ _ rfl rfl rfl HXb.o rfl ?_))
  intro wq2 hw0;have hon:Onl [w.heap.size] wq1 wq2:=by rw[hw0.out];exact Onl.setRow (Onl.refl _ _) (.inl (by simp)) _
  have hx:Bx wq2 (w.heap.size) sd ((mvB C1 i9 x x.ow.toNat 3)):=by rw[hw0.out];exact Bx.row HXb.o _ _
  clear hw0;replace HRW:=Hd (HRW.o.onl hon (fun b hb=>by have h1:=HDL.o b hb;simp only[List.mem_singleton];omega));have hlo:w.heap.size<=w.heap.size:=by(have o0:=HWS0.o;have o1:=HCq1.o;have x0:=HXb.o.lt;have x1:=HXz.o.lt;omega)
  have hls:w.heap.size<=wq1.heap.size:=HB.o.size;replace HB:=Hd (belowOnl HB.o hon (by simp only[List.mem_singleton,forall_eq];exact hlo) hls);replace HXz:=Hd (HXz.o.onl hon (by simp only[List.mem_singleton];(have o0:=HWS0.o;have o1:=HCq1.o;have x0:=HXb.o.lt;have x1:=HXz.o.lt;omega)));replace HOd:=Hd (HOd.o.onlB hon HXb.o);have HCq2:Hid (wq1.heap.size<=wq2.heap.size):=Hd (hon.size);clear hlo hls;replace HXb:=Hd hx;clear hx hon;have HOD:Hid (BdO w.heap.size wq2.heap.size wq2 sd (mvB C1 i9 x x.ow.toNat 3)):=Hd (HOd.o.mono (by(have o0:=HWS0.o;have o1:=HCq1.o;have o2:=HCq2.o;have x0:=HXb.o.lt;have x1:=HXz.o.lt;omega)) (by(have o0:=HWS0.o;have o1:=HCq1.o;have o2:=HCq2.o;have x0:=HXb.o.lt;have x1:=HXz.o.lt;omega)));rw[HMV.o,<-HC2.o] at HXb HOD
  clear HOd;go_wp2_with fail
  go_roundw
  case rel=>exact⟨k+1,sd,by omega,by go_num,HB.o,HXb.o,HXz.o,HOD.o,HRW.o⟩
  case measure=>simp[intOf];omega
 case neg=>
 obtain rfl:k=l.length:=by omega
 rw[List.take_length] at HXb HO1
 rw[<-HBY.o] at HXb HO1
 have HWS0:Hid (w.heap.size<=wr.heap.size):=Hd HB.o.size;clear HRW HLF;go_wp2_with (first|(refine wpList_load_bx _ rfl rfl HXb.o (by kernel_rfl) ?_)|(refine wpList_store_bh (s:=s') (B:=(byB cs B t)) rfl _ _ rfl rfl rfl HXz.o rfl ?_;intro we1 hw9))
 have hg9:Bx we1 (w.heap.size+1) s' ((byB cs B t)):=by rw[hw9.out];exact Bx.row HXz.o _ _
 have ho9:Onl [w.heap.size+1] wr we1:=by rw[hw9.out];exact Onl.setRow (Onl.refl _ _) (.inl (by simp)) _
 have hlo:w.heap.size<=w.heap.size+1:=by(have o0:=HWS0.o;have x0:=HXb.o.lt;have x1:=HXz.o.lt;omega)
 have hb9:Below w.heap.size w we1:=belowOnl HB.o ho9 (by simp only[List.mem_singleton,forall_eq];exact hlo) HB.o.size;have HG9:=Hd hg9;have HPOST:Hid (BrA w ((byB cs B t)) (.int .i64 ((dyL (cs.map Prod.fst) B).length:Nat)) (.returned (.tuple #[bv s' ((byB cs B t)),.int .i64 (l.length:Nat)])) we1):=Hd (by rw[HLD.o];exact⟨_,rfl,(HO1.o.onlB ho9 HXz.o).mono (by(have o0:=HWS0.o;have x0:=HXb.o.lt;have x1:=HXz.o.lt;omega)) (by have h9:=ho9.size;(have o0:=HWS0.o;have x0:=HXb.o.lt;have x1:=HXz.o.lt;omega)),hb9⟩);clear hw9 hg9 ho9 hb9 hlo;go_wp2_with fail
 exact bodyPost_ret (v:= .tuple #[bv s' ((byB cs B t)),.int .i64 (l.length:Nat)]) (results_b1 Tryz.results34 _ _ HG9.o rfl rfl) rfl HPOST.o
theorem bsweep(s:Bs)(B:Bd)(lo hi:Nat)(w:World)(h:BdO lo hi w s B)(hlo:lo<=w.heap.size)(hhi:hi<=w.heap.size)(hv:VB B):Calls Tryz.prog 35 #[bv s B] w (SwA lo w (swB B) (goL B).length):=by
 have HO:=Hd h;have HV:=Hd hv;have HLO:Hid (lo<=w.heap.size):=Hd hlo;have HHI:Hid (hi<=w.heap.size):=Hd hhi;clear h hv hlo hhi;go_enter Tryz.func35,Tryz.ntmps35
 go_upto_region 1 with fail
 change Code.wp Tryz.prog _ _ _ ((w.alloc (.cells (bcells s B) 34)).alloc (.cells (bcells nilS zeroB) 34))
 obtain⟨wz,hwz⟩:∃W,W=((w.alloc (.cells (bcells s B) 34)).alloc (.cells (bcells nilS zeroB) 34)):=⟨_,rfl⟩
 rw[<-hwz];have b0:Below w.heap.size w (w.alloc (.cells (bcells s B) 34)):=by exact(Below.refl _ _).alloc (Nat.le_refl _) _
 have b1:Below (w.alloc (.cells (bcells s B) 34)).heap.size (w.alloc (.cells (bcells s B) 34)) wz:=by rw[hwz];exact(Below.refl _ _).alloc (Nat.le_refl _) _
 have HB:Hid (Below w.heap.size w wz):=Hd (below_via b0 b1);have HXb:Hid (Bx wz (w.heap.size) s B):=Hd ((Ro.new w (bcells s B) 34).below b1:Ro _ _ _ _);have HXz:Hid (Bx wz (w.heap.size+1) nilS zeroB):=Hd (by rw[show w.heap.size+1=(w.alloc (.cells (bcells s B) 34)).heap.size by simp];exact(by rw[hwz];exact(Ro.new (w.alloc (.cells (bcells s B) 34)) (bcells nilS zeroB) 34)));have HC1:Hid (w.heap.size+2<=wz.heap.size):=Hd (by rw[hwz];simp);clear hwz b0 b1;go_wp2_with (first|(refine wpList_load_bx _ rfl rfl HXb.o (by kernel_rfl) ?_))
 with_reducible refine(bgone s B _ (HO.o.rd.below HB.o) HV.o).mono ?_
 rintro e w1 ⟨da,dc,rfl,ho,hb⟩;have HC2:Hid (wz.heap.size<=w1.heap.size):=Hd (hb.size);replace HB:=Hd (below_via HB.o hb);replace HXb:=Hd (HXb.o.below hb);replace HXz:=Hd (HXz.o.below hb)
 obtain⟨l,hld⟩:∃l,goL B=l:=⟨_,rfl⟩
 have HSW:Hid (swB B=l.foldl rmI B):=Hd (by unfold swB;rw[hld]);have HND:Hid (l.Nodup):=Hd (by rw[<-hld];exact pk_nodup HV.o _);have hln:l.length<=1000:=by rw[<-hld];exact Nat.le_trans (pkL_len _) HV.o.sm.ob
 rw[hld] at ho ⊢
 have HLD:=Hd hld;have HRW:Hid (Rw ic 1 w1 (.slice da l.length dc) l):=Hd (ho.rw ic_len);have HDL:Hid (∀q,(Value.slice da l.length dc).ownBlock=some q->w.heap.size+2<=q):=Hd (fun q hq=>by have h1:=(ho.typ q hq).1;(have o0:=HC1.o;have o1:=HC2.o;have x0:=HXb.o.lt;have x1:=HXz.o.lt;omega));have HO1:Hid (BdO lo w1.heap.size w1 s B):=Hd ((HO.o.below HB.o).mono (Nat.le_refl _) (Nat.le_trans HHI.o HB.o.size));clear hb ho hld HO HC1 HC2;go_wp2_with fail
 go_loopw [11] (fun i wr=>BuM w lo l rmI B (.slice da l.length dc) i wr) (fun i _=>l.length-(intOf i).toNat)
 case atStart=>exact⟨0,s,by omega,rfl,HB.o,HXb.o,HXz.o,HO1.o,HRW.o⟩
 obtain⟨k,s',hk,rfl,hb,hx,hz,ho,hrw⟩:=hrel
 replace HB:=Hd hb;replace HXb:=Hd hx;replace HXz:=Hd hz;replace HO1:=Hd ho;replace HRW:=Hd hrw;clear hb hx hz ho hrw
 by_cases hkl:k<l.length
 case pos=>
  obtain⟨_,a9,c9,hv9,hlf⟩:=HRW.o.form
  simp only[Value.slice.injEq] at hv9
  obtain⟨rfl,hq9,rfl⟩:=hv9
  have HLF:=Hd hlf
  obtain⟨C1,C2,i9,x,hc1,hc2,hv1,hi1,hly,hid,hmv⟩:=rms_next HV.o HND.o HLD.o hkl
  rw[hc1] at HXb HO1
  obtain⟨y,hy0⟩:∃y,x.id=y:=⟨_,rfl⟩
  have HY0:=Hd hy0;rw[hy0] at hly
  have HY:=Hd hly;have HC2:=Hd hc2;have HV1:=Hd hv1;have HI1:=Hd hi1;have HIDX:=Hd hid;have HMV:=Hd hmv;clear hq9 hlf hc1 hc2 hv1 hi1 hly hid hmv hy0
  obtain⟨b,off,rfl,hlb,hc⟩:=HLF.o (by omega)
  have e0:wr.cell? ⟨b,off+k,none⟩=some (.int .i64 y):=((Below.refl wr.heap.size wr).cell (p:=⟨b,off+k,none⟩) hlb).trans (by have h:=hc k y HY.o 0 _ rfl;simpa using h);have i1:(0:Int)<=(k:Int):=by omega
  have i2:(k:Int)<(l.length:Int):=by omega
  clear hc hlb;have HWS0:Hid (w.heap.size<=wr.heap.size):=Hd HB.o.size
  go_upto_region 5 with fail
  clear e0;go_wp2_with (first|(refine wpList_load_bx _ rfl rfl HXb.o (by kernel_rfl) ?_))
  rw[<-HY0.o];with_reducible refine(bremove s' C1 i9 x _ HO1.o.rd HV1.o HI1.o HIDX.o).mono ?_
  rintro e wq1 ⟨sd,rfl,ho,hb⟩;have HCq1:Hid (wr.heap.size<=wq1.heap.size):=Hd (hb.size);replace HB:=Hd (below_via HB.o hb);replace HXb:=Hd (HXb.o.below hb);replace HXz:=Hd (HXz.o.below hb);replace HRW:=Hd (HRW.o.below hb);have HOd:=Hd ho;clear ho hb;go_wp2_with (first|(refine wpList_store_bh (s:=sd) (B:=(rmB C1 i9 x.id)) rfl _ _ rfl rfl rfl HXb.o rfl ?_))
  intro wq2 hw0;have hon:Onl [w.heap.size] wq1 wq2:=by rw[hw0.out];exact Onl.setRow (Onl.refl _ _) (.inl (by simp)) _
  have hx:Bx wq2 (w.heap.size) sd ((rmB C1 i9 x.id)):=by rw[hw0.out];exact Bx.row HXb.o _ _
  clear hw0;replace HRW:=Hd (HRW.o.onl hon (fun b hb=>by have h1:=HDL.o b hb;simp only[List.mem_singleton];omega));have hlo:w.heap.size<=w.heap.size:=by(have o0:=HWS0.o;have o1:=HLO.o;have o2:=HCq1.o;have x0:=HXb.o.lt;have x1:=HXz.o.lt;omega)
  have hls:w.heap.size<=wq1.heap.size:=HB.o.size;replace HB:=Hd (belowOnl HB.o hon (by simp only[List.mem_singleton,forall_eq];exact hlo) hls);replace HXz:=Hd (HXz.o.onl hon (by simp only[List.mem_singleton];(have o0:=HWS0.o;have o1:=HLO.o;have o2:=HCq1.o;have x0:=HXb.o.lt;have x1:=HXz.o.lt;omega)));replace HOd:=Hd (HOd.o.onlB hon HXb.o);have HCq2:Hid (wq1.heap.size<=wq2.heap.size):=Hd (hon.size);clear hlo hls;replace HXb:=Hd hx;clear hx hon;have HOD:Hid (BdO lo wq2.heap.size wq2 sd (rmB C1 i9 x.id)):=Hd (HOd.o.mono (by(have o0:=HWS0.o;have o1:=HLO.o;have o2:=HCq1.o;have o3:=HCq2.o;have x0:=HXb.o.lt;have x1:=HXz.o.lt;omega)) (by(have o0:=HWS0.o;have o1:=HLO.o;have o2:=HCq1.o;have o3:=HCq2.o;have x0:=HXb.o.lt;have x1:=HXz.o.lt;omega)));rw[HMV.o,<-HC2.o] at HXb HOD
  clear HOd;go_wp2_with fail
  go_roundw
  case rel=>exact⟨k+1,sd,by omega,by go_num,HB.o,HXb.o,HXz.o,HOD.o,HRW.o⟩
  case measure=>simp[intOf];omega
 case neg=>
 obtain rfl:k=l.length:=by omega
 rw[List.take_length] at HXb HO1
 rw[<-HSW.o] at HXb HO1
 have HWS0:Hid (w.heap.size<=wr.heap.size):=Hd HB.o.size;clear HRW;go_wp2_with (first|(refine wpList_load_bx _ rfl rfl HXb.o (by kernel_rfl) ?_)|(refine wpList_store_bh (s:=s') (B:=(swB B)) rfl _ _ rfl rfl rfl HXz.o rfl ?_;intro we1 hw9))
 have hg9:Bx we1 (w.heap.size+1) s' ((swB B)):=by rw[hw9.out];exact Bx.row HXz.o _ _
 have ho9:Onl [w.heap.size+1] wr we1:=by rw[hw9.out];exact Onl.setRow (Onl.refl _ _) (.inl (by simp)) _
 have hlo:w.heap.size<=w.heap.size+1:=by(have o0:=HWS0.o;have o1:=HLO.o;have x0:=HXb.o.lt;have x1:=HXz.o.lt;omega)
 have hb9:Below w.heap.size w we1:=belowOnl HB.o ho9 (by simp only[List.mem_singleton,forall_eq];exact hlo) HB.o.size;have HG9:=Hd hg9;have HPOST:Hid (SwA lo w (swB B) (goL B).length (.returned (.tuple #[bv s' ((swB B)),.int .i64 (l.length:Nat)])) we1):=Hd (by rw[HLD.o];exact⟨_,rfl,(HO1.o.onlB ho9 HXz.o).mono (by(have o0:=HWS0.o;have o1:=HLO.o;have x0:=HXb.o.lt;have x1:=HXz.o.lt;omega)) (by have h9:=ho9.size;(have o0:=HWS0.o;have o1:=HLO.o;have x0:=HXb.o.lt;have x1:=HXz.o.lt;omega)),hb9⟩);clear hw9 hg9 ho9 hb9 hlo;go_wp2_with fail
 exact bodyPost_ret (v:= .tuple #[bv s' ((swB B)),.int .i64 (l.length:Nat)]) (results_b1 Tryz.results35 _ _ HG9.o rfl rfl) rfl HPOST.o
end Go.Proofs.YtpbepnpnpopmfaaGreat
namespace Go.Proofs.YtpbepnpnpopmfaaGreat
open Plain
set_option linter.unusedVariables false
set_option linter.unusedSimpArgs false

theorem mvI_len(B:Bd)(n:Int):(mvI B n).ob.length=B.ob.length:=by
 unfold mvI
 split
 ·rename_i x hx
  have h1:(mvB B (B.ob.findIdx (fun o=>o.id==n)) x x.ow.toNat 3).ob=B.ob.set (B.ob.findIdx (fun o=>o.id==n)) (rsO x 3):=by
   unfold mvB Bd.setL
   split<;>rfl
  rw[h1,List.length_set]
 rfl
theorem mvs_len:∀(l:List Int) (B:Bd),(l.foldl mvI B).ob.length=B.ob.length
 |[],_=>rfl
 |n::l,B=>(mvs_len l (mvI B n)).trans (mvI_len B n)
theorem rms_len:∀(l:List Int) (B:Bd),(l.foldl rmI B).ob.length<=B.ob.length
 |[],_=>Nat.le_refl _
 |n::l,B=>Nat.le_trans (rms_len l (rmI B n)) (rm_len B n)
theorem byB_len(cs:List (Cd×List (Int×Nat)))(B:Bd)(t:Int):(byB cs B t).ob.length=B.ob.length:=mvs_len _ _
theorem ckB_len(cs:List (Cd×List (Int×Nat)))(B:Bd)(t:Int):(ckB cs B t).ob.length<=B.ob.length:=Nat.le_trans (rms_len _ _) (Nat.le_of_eq (byB_len cs B t))
theorem ckN_le(cs:List (Cd×List (Int×Nat)))(B:Bd)(t:Int):(dyL (cs.map Prod.fst) B).length<=B.ob.length/\(goL (byB cs B t)).length<=B.ob.length:=⟨pkL_len _,Nat.le_trans (pkL_len _) (Nat.le_of_eq (byB_len cs B t))⟩
def CkS(cs:List (Cd×List (Int×Nat)))(B:Bd)(t:Int)(C:Bd)(m:Nat):Prop:=(m=0/\C=B)\/(0<m/\m=ckN cs B t/\C=ckB cs B t)
theorem CkS.vb{cs:List (Cd×List (Int×Nat))}{B C:Bd}{t:Int}{m:Nat}(h:CkS cs B t C m)(hv:VB B):VB C:=by
 rcases h with⟨_,rfl⟩|⟨_,_,rfl⟩
 ·exact hv
 exact(ckB_ok cs hv t).1
theorem CkS.len{cs:List (Cd×List (Int×Nat))}{B C:Bd}{t:Int}{m:Nat}(h:CkS cs B t C m){n:Nat}(hv:B.ob.length<=n):C.ob.length<=n:=by
 rcases h with⟨_,rfl⟩|⟨_,_,rfl⟩
 ·exact hv
 exact Nat.le_trans (ckB_len cs B t) hv
theorem CkS.small{cs:List (Cd×List (Int×Nat))}{B C:Bd}{t:Int}{m:Nat}(h:CkS cs B t C m){n:Nat}(hv:B.ob.length<=n):m<=n+n:=by
 rcases h with⟨rfl,_⟩|⟨_,rfl,_⟩
 ·omega
 have:=ckN_le cs B t
 unfold ckN;omega
theorem CkS.done{cs:List (Cd×List (Int×Nat))}{B C:Bd}{t:Int}{m:Nat}(h:CkS cs B t C m)(h0:ckN cs C t=0):C=ckB cs B t/\m=ckN cs B t:=by
 rcases h with⟨rfl,rfl⟩|⟨_,h1,h2⟩
 ·have h1:=ckN_zero h0
  exact⟨(ckB_nil h1.1 h1.2 t).symm,h0.symm⟩
 exact⟨h2,h1⟩
theorem CkS.next{cs:List (Cd×List (Int×Nat))}{B C:Bd}{t:Int}{m:Nat}(h:CkS cs B t C m)(hv:VB B)(h0:0<ckN cs C t):m=0/\CkS cs B t (ckB cs C t) (ckN cs C t):=by
 rcases h with⟨rfl,rfl⟩|⟨_,h1,rfl⟩
 ·exact⟨rfl,.inr ⟨h0,rfl,rfl⟩⟩
 obtain⟨_,h2,h3⟩:=ckB_ok cs hv t
 rw[ckN_nil h3 h2] at h0
 omega
def CkL(w:World)(cs:List (Cd×List (Int×Nat)))(B:Bd)(t:Int)(v:Value)(wr:World):Prop:=∃(C:Bd) (s':Bs) (m:Nat),v= .int .i64 m/\Below w.heap.size w wr/\Bx wr w.heap.size s' C/\Bx wr (w.heap.size+1) nilS zeroB/\BdO w.heap.size wr.heap.size wr s' C/\CkS cs B t C m
theorem check_neg(v:Value)(cs:List (Cd×List (Int×Nat)))(s:Bs)(B:Bd)(t:Int)(w:World)(hm:t<0):Calls Tryz.prog 10 #[v,bv s B,.int .i64 t] w (BrP w zeroB (.int .i64 0) (.int .i64 2)):=by
 have tm:decide (t<0)=true:=decide_eq_true hm;clear hm;go_enter Tryz.func10,Tryz.ntmps10
 go_upto_region 1 with fail
 change Code.wp Tryz.prog _ _ _ ((w.alloc (.cells (bcells s B) 34)).alloc (.cells (bcells nilS zeroB) 34))
 obtain⟨wz,hwz⟩:∃W,W=((w.alloc (.cells (bcells s B) 34)).alloc (.cells (bcells nilS zeroB) 34)):=⟨_,rfl⟩
 rw[<-hwz];have b0:Below w.heap.size w (w.alloc (.cells (bcells s B) 34)):=by exact(Below.refl _ _).alloc (Nat.le_refl _) _
 have b1:Below (w.alloc (.cells (bcells s B) 34)).heap.size (w.alloc (.cells (bcells s B) 34)) wz:=by rw[hwz];exact(Below.refl _ _).alloc (Nat.le_refl _) _
 have HB:Hid (Below w.heap.size w wz):=Hd (below_via b0 b1);have HXb:Hid (Bx wz (w.heap.size) s B):=Hd ((Ro.new w (bcells s B) 34).below b1:Ro _ _ _ _);have HXz:Hid (Bx wz (w.heap.size+1) nilS zeroB):=Hd (by rw[show w.heap.size+1=(w.alloc (.cells (bcells s B) 34)).heap.size by simp];exact(by rw[hwz];exact(Ro.new (w.alloc (.cells (bcells s B) 34)) (bcells nilS zeroB) 34)));have HC1:Hid (w.heap.size+2<=wz.heap.size):=Hd (by rw[hwz];simp);clear hwz b0 b1
 go_upto_region 2 with fail
 go_wp2_with (first|(refine wpList_store_bh (s:=nilS) (B:=zeroB) rfl _ _ rfl rfl rfl HXz.o rfl ?_;intro w1 hw9))
 have hg9:Bx w1 (w.heap.size+1) nilS (zeroB):=by rw[hw9.out];exact Bx.row HXz.o _ _
 have ho9:Onl [w.heap.size+1] wz w1:=by rw[hw9.out];exact Onl.setRow (Onl.refl _ _) (.inl (by simp)) _
 have hlo:w.heap.size<=w.heap.size+1:=by(have o0:=HC1.o;have x0:=HXb.o.lt;have x1:=HXz.o.lt;omega)
 have hb9:Below w.heap.size w w1:=belowOnl HB.o ho9 (by simp only[List.mem_singleton,forall_eq];exact hlo) HB.o.size;have HG9:=Hd hg9;have HPOST:Hid (BrP w (zeroB) (.int .i64 0) (.int .i64 2) (.returned (.tuple #[bv nilS (zeroB),.int .i64 0,.int .i64 2])) w1):=Hd ⟨_,rfl,zeroOwn _ _ _,hb9⟩;clear hw9 hg9 ho9 hb9 hlo;go_wp2_with fail
 exact bodyPost_ret (v:= .tuple #[bv nilS (zeroB),.int .i64 0,.int .i64 2]) (results_b2 Tryz.results10 _ _ HG9.o rfl rfl rfl) rfl HPOST.o
theorem check_bad(v:Value)(cs:List (Cd×List (Int×Nat)))(s:Bs)(B:Bd)(t:Int)(w:World)(hm:0<=t)(h:BdR w s B)(hi:B.I)(hsm:B.Sm)(hv:¬VB B):Calls Tryz.prog 10 #[v,bv s B,.int .i64 t] w (BrP w zeroB (.int .i64 0) (.int .i64 2)):=by
 have tm:decide (t<0)=false:=decide_eq_false (by omega);clear hm;have HR:=Hd h;have HI:=Hd hi;have HSM:=Hd hsm;have HV:=Hd hv;clear h hi hsm hv;go_enter Tryz.func10,Tryz.ntmps10
 go_upto_region 1 with fail
 change Code.wp Tryz.prog _ _ _ ((w.alloc (.cells (bcells s B) 34)).alloc (.cells (bcells nilS zeroB) 34))
 obtain⟨wz,hwz⟩:∃W,W=((w.alloc (.cells (bcells s B) 34)).alloc (.cells (bcells nilS zeroB) 34)):=⟨_,rfl⟩
 rw[<-hwz];have b0:Below w.heap.size w (w.alloc (.cells (bcells s B) 34)):=by exact(Below.refl _ _).alloc (Nat.le_refl _) _
 have b1:Below (w.alloc (.cells (bcells s B) 34)).heap.size (w.alloc (.cells (bcells s B) 34)) wz:=by rw[hwz];exact(Below.refl _ _).alloc (Nat.le_refl _) _
 have HB:Hid (Below w.heap.size w wz):=Hd (below_via b0 b1);have HXb:Hid (Bx wz (w.heap.size) s B):=Hd ((Ro.new w (bcells s B) 34).below b1:Ro _ _ _ _);have HXz:Hid (Bx wz (w.heap.size+1) nilS zeroB):=Hd (by rw[show w.heap.size+1=(w.alloc (.cells (bcells s B) 34)).heap.size by simp];exact(by rw[hwz];exact(Ro.new (w.alloc (.cells (bcells s B) 34)) (bcells nilS zeroB) 34)));have HC1:Hid (w.heap.size+2<=wz.heap.size):=Hd (by rw[hwz];simp);clear hwz b0 b1;go_wp2_with (first|(refine wpList_load_bx _ rfl rfl HXb.o (by kernel_rfl) ?_))
 with_reducible refine(bvalid s (B) _ (HR.o.below HB.o) HI.o HSM.o).mono ?_
 rintro e w1 ⟨⟨r,rfl,hr⟩,hb⟩;have HC2:Hid (wz.heap.size<=w1.heap.size):=Hd (hb.size);replace HB:=Hd (below_via HB.o hb);replace HXb:=Hd (HXb.o.below hb);replace HXz:=Hd (HXz.o.below hb);obtain rfl:r=false:=by cases r with|false=>rfl|true=>exact absurd (hr.1 rfl) HV.o
 clear hr hb
 go_upto_region 2 with fail
 go_wp2_with (first|(refine wpList_store_bh (s:=nilS) (B:=zeroB) rfl _ _ rfl rfl rfl HXz.o rfl ?_;intro w2 hw9))
 have hg9:Bx w2 (w.heap.size+1) nilS (zeroB):=by rw[hw9.out];exact Bx.row HXz.o _ _
 have ho9:Onl [w.heap.size+1] w1 w2:=by rw[hw9.out];exact Onl.setRow (Onl.refl _ _) (.inl (by simp)) _
 have hlo:w.heap.size<=w.heap.size+1:=by(have o0:=HC1.o;have o1:=HC2.o;have x0:=HXb.o.lt;have x1:=HXz.o.lt;omega)
 have hb9:Below w.heap.size w w2:=belowOnl HB.o ho9 (by simp only[List.mem_singleton,forall_eq];exact hlo) HB.o.size;have HG9:=Hd hg9;have HPOST:Hid (BrP w (zeroB) (.int .i64 0) (.int .i64 2) (.returned (.tuple #[bv nilS (zeroB),.int .i64 0,.int .i64 2])) w2):=Hd ⟨_,rfl,zeroOwn _ _ _,hb9⟩;clear hw9 hg9 ho9 hb9 hlo;go_wp2_with fail
 exact bodyPost_ret (v:= .tuple #[bv nilS (zeroB),.int .i64 0,.int .i64 2]) (results_b2 Tryz.results10 _ _ HG9.o rfl rfl rfl) rfl HPOST.o
theorem check_ok(v:Value)(cs:List (Cd×List (Int×Nat)))(s:Bs)(B:Bd)(t:Int)(w:World)(hc:CsR w v cs)(hci:CI (cs.map Prod.fst))(hl:Lt cs)(h:BdR w s B)(hv:VB B)(ht:0<=t)(hn:B.ob.length<=210):Calls Tryz.prog 10 #[v,bv s B,.int .i64 t] w (BrP w (ckB cs B t) (.int .i64 (ckN cs B t:Nat)) (.int .i64 0)):=by
 have tm:decide (t<0)=false:=decide_eq_false (by omega);have HCS:=Hd hc;have HCI:=Hd hci;have HL:=Hd hl;have HR:=Hd h;have HV:=Hd hv;have HT:=Hd ht;have HN:=Hd hn;clear h hv ht hn hc hci hl;go_enter Tryz.func10,Tryz.ntmps10
 go_upto_region 1 with fail
 change Code.wp Tryz.prog _ _ _ ((w.alloc (.cells (bcells s B) 34)).alloc (.cells (bcells nilS zeroB) 34))
 obtain⟨wz,hwz⟩:∃W,W=((w.alloc (.cells (bcells s B) 34)).alloc (.cells (bcells nilS zeroB) 34)):=⟨_,rfl⟩
 rw[<-hwz];have b0:Below w.heap.size w (w.alloc (.cells (bcells s B) 34)):=by exact(Below.refl _ _).alloc (Nat.le_refl _) _
 have b1:Below (w.alloc (.cells (bcells s B) 34)).heap.size (w.alloc (.cells (bcells s B) 34)) wz:=by rw[hwz];exact(Below.refl _ _).alloc (Nat.le_refl _) _
 have HB:Hid (Below w.heap.size w wz):=Hd (below_via b0 b1);have HXb:Hid (Bx wz (w.heap.size) s B):=Hd ((Ro.new w (bcells s B) 34).below b1:Ro _ _ _ _);have HXz:Hid (Bx wz (w.heap.size+1) nilS zeroB):=Hd (by rw[show w.heap.size+1=(w.alloc (.cells (bcells s B) 34)).heap.size by simp];exact(by rw[hwz];exact(Ro.new (w.alloc (.cells (bcells s B) 34)) (bcells nilS zeroB) 34)));have HC1:Hid (w.heap.size+2<=wz.heap.size):=Hd (by rw[hwz];simp);clear hwz b0 b1;go_wp2_with (first|(refine wpList_load_bx _ rfl rfl HXb.o (by kernel_rfl) ?_))
 with_reducible refine(bvalid s (B) _ (HR.o.below HB.o) HV.o.i HV.o.sm).mono ?_
 rintro e w1 ⟨⟨r,rfl,hr⟩,hb⟩;have HC2:Hid (wz.heap.size<=w1.heap.size):=Hd (hb.size);replace HB:=Hd (below_via HB.o hb);replace HXb:=Hd (HXb.o.below hb);replace HXz:=Hd (HXz.o.below hb);obtain rfl:r=true:=hr.2 HV.o;clear hr hb
 go_upto_region 3 with fail
 clear tm;go_wp2_with (first|(refine wpList_load_bx _ rfl rfl HXb.o (by kernel_rfl) ?_))
 with_reducible refine(bcopy s B _ (HR.o.below HB.o) HV.o.sm HV.o.tl).mono ?_
 rintro e w2 ⟨sc,rfl,ho,hb⟩;have HC3:Hid (w1.heap.size<=w2.heap.size):=Hd (hb.size);replace HB:=Hd (below_via HB.o hb);replace HXb:=Hd (HXb.o.below hb);replace HXz:=Hd (HXz.o.below hb);have HOc:=Hd ho;clear ho hb;go_wp2_with (first|(refine wpList_store_bh (s:=sc) (B:=B) rfl _ _ rfl rfl rfl HXb.o rfl ?_))
 intro w3 hw0;have hon:Onl [w.heap.size] w2 w3:=by rw[hw0.out];exact Onl.setRow (Onl.refl _ _) (.inl (by simp)) _
 have hx:Bx w3 (w.heap.size) sc (B):=by rw[hw0.out];exact Bx.row HXb.o _ _
 clear hw0;have hlo:w.heap.size<=w.heap.size:=by(have o0:=HC1.o;have o1:=HC2.o;have o2:=HC3.o;have x0:=HXb.o.lt;have x1:=HXz.o.lt;omega)
 have hls:w.heap.size<=w2.heap.size:=HB.o.size;replace HB:=Hd (belowOnl HB.o hon (by simp only[List.mem_singleton,forall_eq];exact hlo) hls);replace HXz:=Hd (HXz.o.onl hon (by simp only[List.mem_singleton];(have o0:=HC1.o;have o1:=HC2.o;have o2:=HC3.o;have x0:=HXb.o.lt;have x1:=HXz.o.lt;omega)));replace HOc:=Hd (HOc.o.onlB hon HXb.o);have HC4:Hid (w2.heap.size<=w3.heap.size):=Hd (hon.size);clear hlo hls;replace HXb:=Hd hx;clear hx hon;have HO1:Hid (BdO w.heap.size w3.heap.size w3 sc B):=Hd (HOc.o.mono (by(have o0:=HC1.o;have o1:=HC2.o;have o2:=HC3.o;have o3:=HC4.o;have x0:=HXb.o.lt;have x1:=HXz.o.lt;omega)) (by(have o0:=HC1.o;have o1:=HC2.o;have o2:=HC3.o;have o3:=HC4.o;have x0:=HXb.o.lt;have x1:=HXz.o.lt;omega)));clear HOc HC1 HC2 HC3 HC4 HR;go_wp2_with fail
 go_loopw [9] (fun v wr=>CkL w cs B t v wr) (fun v _=>1-(intOf v).toNat)
 case atStart=>exact⟨B,sc,0,rfl,HB.o,HXb.o,HXz.o,HO1.o,.inl ⟨rfl,rfl⟩⟩
 obtain⟨C,s',m,rfl,hb,hx,hz,ho,hst⟩:=hrel
 replace HB:=Hd hb;replace HXb:=Hd hx;replace HXz:=Hd hz;replace HO1:=Hd ho;have HST:=Hd hst;have HVC:Hid (VB C):=Hd (hst.vb HV.o);have HNC:Hid (C.ob.length<=210):=Hd (hst.len HN.o);have hm:m<=420:=hst.small HN.o;clear hb hx hz ho hst;have HWS0:Hid (w.heap.size+2<=wr.heap.size):=Hd (by have h1:=HXz.o.lt;omega);go_wp2_with (first|(refine wpList_load_bx _ rfl rfl HXb.o (by kernel_rfl) ?_))
 with_reducible refine(bbury v cs s' C t _ (HCS.o.below HB.o) HCI.o HL.o HO1.o.rd HVC.o HT.o HNC.o).mono ?_
 rintro e wy1 ⟨sd,rfl,ho,hb⟩;have HCy1:Hid (wr.heap.size<=wy1.heap.size):=Hd (hb.size);replace HB:=Hd (below_via HB.o hb);replace HXb:=Hd (HXb.o.below hb);replace HXz:=Hd (HXz.o.below hb);replace HO1:=Hd (HO1.o.below hb);have HOd:=Hd ho;clear ho hb
 obtain⟨nd,hnd⟩:∃n,(dyL (cs.map Prod.fst) C).length=n:=⟨_,rfl⟩
 have hnd2:nd<=210:=by rw[<-hnd];exact Nat.le_trans (ckN_le cs C t).1 HNC.o
 rw[hnd];have HND:=Hd hnd;clear hnd;go_wp2_with (first|(refine wpList_store_bh rfl _ _ rfl rfl rfl (heap_alloc_new _ _) rfl ?_))
 intro wy2 hw0;have hbx:=boxed hw0.out
 obtain⟨nn,hn⟩:∃n,n=wy1.heap.size:=⟨_,rfl⟩
 rw[<-hn] at hbx ⊢
 have hb:=hbx.1;rw[hn] at hb
 clear hw0;replace HB:=Hd (below_via HB.o hb);replace HXb:=Hd (HXb.o.below hb);replace HXz:=Hd (HXz.o.below hb);replace HO1:=Hd (HO1.o.below hb);replace HOd:=Hd (HOd.o.below hb);have HXn:Hid (Bx wy2 nn sd ((byB cs C t))):=Hd hbx.2;have HCy2:Hid (wy1.heap.size<=nn/\nn<wy2.heap.size):=Hd (⟨by omega,hbx.2.lt⟩);clear hbx hn hb;go_wp2_with (first|(refine wpList_load_bx _ rfl rfl HXn.o (by kernel_rfl) ?_))
 with_reducible refine(bsweep sd (byB cs C t) (wr.heap.size) (wy1.heap.size) _ HOd.o (by(have o0:=HWS0.o;have o1:=HCy1.o;have o2:=HCy2.o;have x0:=HXb.o.lt;have x1:=HXz.o.lt;have x2:=HXn.o.lt;omega)) (by(have o0:=HWS0.o;have o1:=HCy1.o;have o2:=HCy2.o;have x0:=HXb.o.lt;have x1:=HXz.o.lt;have x2:=HXn.o.lt;omega)) (byB_ok cs HVC.o t).1).mono ?_
 rintro e wy3 ⟨sn,rfl,ho,hb⟩;have HCy3:Hid (wy2.heap.size<=wy3.heap.size):=Hd (hb.size);replace HB:=Hd (below_via HB.o hb);replace HXb:=Hd (HXb.o.below hb);replace HXz:=Hd (HXz.o.below hb);replace HXn:=Hd (HXn.o.below hb);replace HO1:=Hd (HO1.o.below hb);replace HOd:=Hd (HOd.o.below hb);have HOn:=Hd ho
 obtain⟨nl,hnl⟩:∃n,(goL (byB cs C t)).length=n:=⟨_,rfl⟩
 have hnl2:nl<=210:=by rw[<-hnl];exact Nat.le_trans (ckN_le cs C t).2 HNC.o
 rw[hnl];have HNL:=Hd hnl;have HCN:Hid (ckN cs C t=nd+nl):=Hd (by unfold ckN;rw[HND.o,HNL.o]);clear ho hb hnl;clear HOd;replace HOn:Hid (BdO wr.heap.size wy3.heap.size wy3 sn (ckB cs C t)):=HOn;go_wp2_with (first|(refine wpList_store_bh (s:=sn) (B:=(ckB cs C t)) rfl _ _ rfl rfl rfl HXn.o rfl ?_))
 intro wy4 hw0;have hon:Onl [nn] wy3 wy4:=by rw[hw0.out];exact Onl.setRow (Onl.refl _ _) (.inl (by simp)) _
 have hx:Bx wy4 (nn) sn ((ckB cs C t)):=by rw[hw0.out];exact Bx.row HXn.o _ _
 clear hw0;have hlo:w.heap.size<=nn:=by(have o0:=HWS0.o;have o1:=HCy1.o;have o2:=HCy2.o;have o3:=HCy3.o;have x0:=HXb.o.lt;have x1:=HXz.o.lt;have x2:=HXn.o.lt;omega)
 have hls:w.heap.size<=wy3.heap.size:=HB.o.size;replace HB:=Hd (belowOnl HB.o hon (by simp only[List.mem_singleton,forall_eq];exact hlo) hls);replace HXb:=Hd (HXb.o.onl hon (by simp only[List.mem_singleton];(have o0:=HWS0.o;have o1:=HCy1.o;have o2:=HCy2.o;have o3:=HCy3.o;have x0:=HXb.o.lt;have x1:=HXz.o.lt;have x2:=HXn.o.lt;omega)));replace HXz:=Hd (HXz.o.onl hon (by simp only[List.mem_singleton];(have o0:=HWS0.o;have o1:=HCy1.o;have o2:=HCy2.o;have o3:=HCy3.o;have x0:=HXb.o.lt;have x1:=HXz.o.lt;have x2:=HXn.o.lt;omega)));replace HO1:=Hd (HO1.o.onlB hon HXn.o);replace HOn:=Hd (HOn.o.onlB hon HXn.o);have HCy4:Hid (wy3.heap.size<=wy4.heap.size):=Hd (hon.size);clear hlo hls;replace HXn:=Hd hx;clear hx hon
 go_upto_region 7 with fail
 by_cases h0:nd+nl=0
 ·have q0:((nd:Int)+(nl:Int)==0)=true:=beq_iff_eq.2 (by omega)
  have q0':(nd+nl==0)=true:=beq_iff_eq.2 h0
  obtain⟨hcb,hmn⟩:=HST.o.done (HCN.o.trans h0)
  have HCB:=Hd hcb;have HMN:=Hd hmn;clear h0 hcb hmn
  go_upto_region 8 with fail
  clear q0 q0';go_wp2_with (first|(refine wpList_load_bx _ rfl rfl HXb.o (by kernel_rfl) ?_)|(refine wpList_store_bh (s:=s') (B:=C) rfl _ _ rfl rfl rfl HXz.o rfl ?_;intro wya5 hw9))
  have hg9:Bx wya5 (w.heap.size+1) s' (C):=by rw[hw9.out];exact Bx.row HXz.o _ _
  have ho9:Onl [w.heap.size+1] wy4 wya5:=by rw[hw9.out];exact Onl.setRow (Onl.refl _ _) (.inl (by simp)) _
  have hlo:w.heap.size<=w.heap.size+1:=by(have o0:=HWS0.o;have o1:=HCy1.o;have o2:=HCy2.o;have o3:=HCy3.o;have o4:=HCy4.o;have x0:=HXb.o.lt;have x1:=HXz.o.lt;have x2:=HXn.o.lt;omega)
  have hb9:Below w.heap.size w wya5:=belowOnl HB.o ho9 (by simp only[List.mem_singleton,forall_eq];exact hlo) HB.o.size;have HG9:=Hd hg9;have HPOST:Hid (BrP w (ckB cs B t) (.int .i64 (ckN cs B t:Nat)) (.int .i64 0) (.returned (.tuple #[bv s' (C),.int .i64 (m:Nat),.int .i64 0])) wya5):=Hd (by rw[<-HMN.o,<-HCB.o];exact⟨_,rfl,(HO1.o.onlB ho9 HXz.o).mono (by(have o0:=HWS0.o;have o1:=HCy1.o;have o2:=HCy2.o;have o3:=HCy3.o;have o4:=HCy4.o;have x0:=HXb.o.lt;have x1:=HXz.o.lt;have x2:=HXn.o.lt;omega)) (by have h9:=ho9.size;(have o0:=HWS0.o;have o1:=HCy1.o;have o2:=HCy2.o;have o3:=HCy3.o;have o4:=HCy4.o;have x0:=HXb.o.lt;have x1:=HXz.o.lt;have x2:=HXn.o.lt;omega)),hb9⟩);clear hw9 hg9 ho9 hb9 hlo;go_wp2_with fail
  exact bodyPost_ret (v:= .tuple #[bv s' (C),.int .i64 (m:Nat),.int .i64 0]) (results_b2 Tryz.results10 _ _ HG9.o rfl rfl rfl) rfl HPOST.o
 have q0:((nd:Int)+(nl:Int)==0)=false:=beq_eq_false_iff_ne.2 (by omega);have q0':(nd+nl==0)=false:=beq_eq_false_iff_ne.2 h0
 obtain⟨hm0,hnx⟩:=HST.o.next HV.o (by rw[HCN.o];omega)
 have HNX:=Hd hnx;have HM0:=Hd hm0;have h0':0<nd+nl:=by omega
 have HH0:=Hd h0';clear h0 hm0 hnx h0'
 go_upto_region 9 with fail
 clear q0 q0';go_wp2_with (first|(refine wpList_store_bh (s:=sn) (B:=(ckB cs C t)) rfl _ _ rfl rfl rfl HXb.o rfl ?_)|(refine wpList_load_bx _ rfl rfl HXn.o (by kernel_rfl) ?_))
 intro wyn5 hw0;have hon:Onl [w.heap.size] wy4 wyn5:=by rw[hw0.out];exact Onl.setRow (Onl.refl _ _) (.inl (by simp)) _
 have hx:Bx wyn5 (w.heap.size) sn ((ckB cs C t)):=by rw[hw0.out];exact Bx.row HXb.o _ _
 clear hw0;have hlo:w.heap.size<=w.heap.size:=by(have o0:=HWS0.o;have o1:=HCy1.o;have o2:=HCy2.o;have o3:=HCy3.o;have o4:=HCy4.o;have x0:=HXb.o.lt;have x1:=HXz.o.lt;have x2:=HXn.o.lt;omega)
 have hls:w.heap.size<=wy4.heap.size:=HB.o.size;replace HB:=Hd (belowOnl HB.o hon (by simp only[List.mem_singleton,forall_eq];exact hlo) hls);replace HXz:=Hd (HXz.o.onl hon (by simp only[List.mem_singleton];(have o0:=HWS0.o;have o1:=HCy1.o;have o2:=HCy2.o;have o3:=HCy3.o;have o4:=HCy4.o;have x0:=HXb.o.lt;have x1:=HXz.o.lt;have x2:=HXn.o.lt;omega)));replace HXn:=Hd (HXn.o.onl hon (by simp only[List.mem_singleton];(have o0:=HWS0.o;have o1:=HCy1.o;have o2:=HCy2.o;have o3:=HCy3.o;have o4:=HCy4.o;have x0:=HXb.o.lt;have x1:=HXz.o.lt;have x2:=HXn.o.lt;omega)));replace HO1:=Hd (HO1.o.onlB hon HXb.o);replace HOn:=Hd (HOn.o.onlB hon HXb.o);have HCyn5:Hid (wy4.heap.size<=wyn5.heap.size):=Hd (hon.size);clear hlo hls;replace HXb:=Hd hx;clear hx hon;have HON:Hid (BdO w.heap.size wyn5.heap.size wyn5 sn (ckB cs C t)):=Hd (HOn.o.mono (by(have o0:=HWS0.o;have o1:=HCy1.o;have o2:=HCy2.o;have o3:=HCy3.o;have o4:=HCy4.o;have o5:=HCyn5.o;have x0:=HXb.o.lt;have x1:=HXz.o.lt;have x2:=HXn.o.lt;omega)) (by(have o0:=HWS0.o;have o1:=HCy1.o;have o2:=HCy2.o;have o3:=HCy3.o;have o4:=HCy4.o;have o5:=HCyn5.o;have x0:=HXb.o.lt;have x1:=HXz.o.lt;have x2:=HXn.o.lt;omega)));have HNX2:Hid (CkS cs B t (ckB cs C t) (m+nd+nl)):=Hd (by have h1:=HNX.o;rw[HCN.o] at h1;rw[HM0.o,Nat.zero_add];exact h1);go_wp2_with fail
 go_roundw
 case rel=>exact⟨_,sn,m+nd+nl,by go_num,HB.o,HXb.o,HXz.o,HON.o,HNX2.o⟩
 case measure=>have h1:=HM0.o;have h2:=HH0.o;simp[intOf];omega
end Go.Proofs.YtpbepnpnpopmfaaGreat
