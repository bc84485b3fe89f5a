/- Collect, by the reference. -/
import Derived.Test.YtgkgbpapfjjkcaaTCo
import Derived.Test.YtgkgbpapfjjkcaaTOh
import Derived.Test.YtgkgbpapfjjkcaaTWo
import Derived.Test.YtgkgbpapfjjkcaaBCx
import Derived.Deep.DeepCutAuto
import Derived.LoopTactic
import Derived.Deep.MidRow
namespace Go.Proofs.Ytgkgbpapfjjkcaa
open Go.RowKit Plain
set_option linter.unusedVariables false
set_option linter.unusedSimpArgs false

theorem rg18_6{P:Program}{B n:Nat}{w0:World}{L:List (Nat×Nat×Value)}{E F:World→Prop}{id:Nat}{Q:Exit→Act→World→Prop}{a:Act}{w:World}{A:Array Oper}{o0 o1 o2 o3 o4 o5 o6 o7:Oper}(hm:P.follows .mixedOrders=true)(hA:A=[o0,o1,o2,o3,o4,o5,o6,o7].toArray)(hB:regOk A [1,5] [0,2,3,4,7] (.fs [0,2,3,4] (.rs [1,5] (.altc 6 (.fs [7] .done) .stop)))=true)(c:RC B w0 n L E F w)
  (h:∀wk,Kept B w0 n L wk→E wk→F wk→wpQuiet P A (fun _=>True) (fun a0=>wpQuiet P A (fun w' =>∃s:KX B w0 n L E,w' =s.val) (fun a1=>((∀K2:Act→World→Prop,(∀a2 w2,wpQuiet P A (fun _=>True) (fun a3=>Q .normal a3 w2) [o7] a2→K2 a2 w2)→wpList P A (fun e a2 w2=>e= .normal∧K2 a2 w2) [o6] a1 wk)∧True)) [o1,o5] a0) [o0,o2,o3,o4] a):(Code.region id A true).wp P Q a w:=by
 subst hA;exact wp_reg _ _ _ hm hB c (fun wk k e f=>have g:=h wk k e f;Scr.of_fs _ _ rfl g fun _ g=>Scr.of_rs _ _ rfl g fun _ g=>(Scr.of_altc rfl (g.1 _ fun _ _ g=>g) (fun _ _ g=>Scr.of_fs _ _ rfl g fun _ g=>g) trivial))
theorem rg18_11{P:Program}{B n:Nat}{w0:World}{L:List (Nat×Nat×Value)}{E F:World→Prop}{id:Nat}{Q:Exit→Act→World→Prop}{a:Act}{w:World}{A:Array Oper}{o0 o1 o2 o3 o4 o5 o6 o7 o8 o9:Oper}(hm:P.follows .mixedOrders=true)(hA:A=[o0,o1,o2,o3,o4,o5,o6,o7,o8,o9].toArray)(hB:regOk A [1,5] [0,2,3,4,8] (.fs [0,2,3,4] (.rs [1,5] (.alt 6 (.altc 7 (.fs [8] (.altc 9 .done .stop)) .stop) .stop)))=true)(c:RC B w0 n L E F w)
  (h:∀wk,Kept B w0 n L wk→E wk→F wk→wpQuiet P A (fun _=>True) (fun a0=>wpQuiet P A (fun w' =>∃s:KX B w0 n L E,w' =s.val) (fun a1=>((∀K2:Act→World→Prop,(∀a2 w2,((∀K3:Act→World→Prop,(∀a3 w3,wpQuiet P A (fun _=>True) (fun a4=>((∀K5:Act→World→Prop,(∀a5 w5,Q .normal a5 w5→K5 a5 w5)→wpList P A (fun e a5 w5=>e= .normal∧K5 a5 w5) [o9] a4 w3)∧True)) [o8] a3→K3 a3 w3)→wpList P A (fun e a3 w3=>e= .normal∧K3 a3 w3) [o7] a2 w2)∧True)→K2 a2 w2)→wpList P A (fun e a2 w2=>e= .normal∧(∃s:KX B w0 n L E,w2=s.val)∧K2 a2 w2) [o6] a1 wk)∧True)) [o1,o5] a0) [o0,o2,o3,o4] a):(Code.region id A true).wp P Q a w:=by
 subst hA;exact wp_reg _ _ _ hm hB c (fun wk k e f=>have g:=h wk k e f;Scr.of_fs _ _ rfl g fun _ g=>Scr.of_rs _ _ rfl g fun _ g=>(Scr.of_alt rfl (g.1 _ fun _ _ g=>g) (fun _ _ g=>(Scr.of_altc rfl (g.1 _ fun _ _ g=>g) (fun _ _ g=>Scr.of_fs _ _ rfl g fun _ g=>(Scr.of_altc rfl (g.1 _ fun _ _ g=>g) (fun _ _ g=>g) trivial)) trivial)) trivial))
theorem rhofv(v:Value)(cs:List (Cd×List (Int×Nat)))(s:Bs)(B:Bd)(x:Hp)(w:World)(hc:CsR w v cs)(hl:Lt cs)(h:BdR w s B)(hv:VB B):Calls Try.prog 13 #[v,bv s B,.agg #[.int .i64 x.wh,.int .i64 x.id,.int .i64 x.pl]] w (OfA w (hapK cs B x.wh x.id x.pl B.ob)):=rhof v cs s B x.wh x.id x.pl w hc hl h hv.i hv.sm hv
/-- one more item: there is room -/
theorem co_yes{B:Bd}{P:List It}{most:Int}(x:It)(h1:((coB B P most).qu.length:Int)<most)(h2:(coB B P most).qu.length<200):coB B (P++[x]) most={B with qu:=(coB B P most).qu++[x]}∧room B (P++[x]).length most=P.length+1∧room B P.length most=P.length:=by
 have e:(coB B P most).qu.length=B.qu.length+room B P.length most:=by
  show(B.qu++P.take (room B P.length most)).length=_
  rw[List.length_append,List.length_take,Nat.min_eq_left (room_le _ _ _)]
 rw[e] at h1 h2
 have r0:room B P.length most=P.length:=by unfold room at*;omega
 have r1:room B (P++[x]).length most=P.length+1:=by rw[List.length_append];unfold room at*;simp only[List.length_singleton];omega
 refine⟨?_,r1,r0⟩
 unfold coB;rw[r0,r1,List.take_length,List.take_of_length_le (by simp),List.append_assoc]
/-- one more item: there is none -/
theorem co_no{B:Bd}{P:List It}{most:Int}(x:It)(h:¬(((coB B P most).qu.length:Int)<most∧(coB B P most).qu.length<200)):coB B (P++[x]) most=coB B P most∧room B (P++[x]).length most=room B P.length most:=by
 have e:(coB B P most).qu.length=B.qu.length+room B P.length most:=by
  show(B.qu++P.take (room B P.length most)).length=_
  rw[List.length_append,List.length_take,Nat.min_eq_left (room_le _ _ _)]
 rw[e] at h
 have r1:room B (P++[x]).length most=room B P.length most:=by rw[List.length_append];unfold room at*;simp only[List.length_singleton];omega
 refine⟨?_,r1⟩
 unfold coB;rw[r1,List.take_append_of_le_length (room_le _ _ _)]
theorem co_zero{B:Bd}{most:Int}:coB B [] most=B:=by unfold coB;simp
/-- the box of the board that is made, and what was dropped -/
structure RcS(w:World)(y1 y2:Nat)(nc:Nat)(B:Bd)(s:Bs)(P:List It)(most:Int)(dv:Value)(wr:World):Prop where
 dv:dv= .int .i64 ((P.length:Int)-(room B P.length most:Nat))
 ex:∃s',Bx wr nc s' (coB B P most)∧BdO w.heap.size wr.heap.size wr s' (coB B P most)∧∀b,s'.qu.v.ownBlock=some b→¬(y1≤b∧b<y2)
 hb:Below w.heap.size w wr
 hx:Bx wr w.heap.size s B
 hz:Bx wr (w.heap.size+1) nilS zeroB
theorem RcS.any{w:World}{y1 y2 nc:Nat}{B:Bd}{s:Bs}{P:List It}{most:Int}{dv:Value}{wr:World}(h:RcS w y1 y2 nc B s P most dv wr):RcS w 0 0 nc B s P most dv wr:=by
 obtain⟨h1,⟨s',h2,h3,_⟩,h4,h5,h6⟩:=h
 exact⟨h1,⟨s',h2,h3,fun _ _ h=>by omega⟩,h4,h5,h6⟩
def RcO(w:World)(nc:Nat)(cs:List (Cd×List (Int×Nat)))(B:Bd)(s:Bs)(L:List Hp)(most:Int)(dv i:Value)(wr:World):Prop:=∃k:Nat,k≤L.length∧i= .int .i64 k∧RcS w 0 0 nc B s (allL cs B (L.take k)) most dv wr
def RcI(w:World)(y1 y2:Nat)(nc:Nat)(B:Bd)(s:Bs)(P X:List It)(most:Int)(xa:Option Addr)(xc:Nat)(dv i:Value)(wr:World):Prop:=∃k:Nat,k≤X.length∧i= .int .i64 k∧RcS w y1 y2 nc B s (P++X.take k) most dv wr∧Ox itc 5 60 y1 y2 wr (.slice xa X.length xc) (X.map nilI)∧y2≤wr.heap.size
set_option maxRecDepth 100000 in
set_option maxHeartbeats 4000000 in
theorem rcollect(v:Value)(cs:List (Cd×List (Int×Nat)))(s:Bs)(B:Bd)(ha:Option Addr)(hcp:Nat)(L:List Hp)(most:Int)(w:World)(hm:0≤most)(h:BdR w s B)(hv:VB B)(hc:CsR w v cs)(hl:Lt cs)(hh:Rw hpc 3 w (.slice ha L.length hcp) L)(hll:L.length≤20):Calls Try.prog 18 #[v,bv s B,.slice ha L.length hcp,.int .i64 most] w (BrA w (coB B (allL cs B L) most) (.int .i64 ((allL cs B L).length-(room B (allL cs B L).length most:Nat)))):=by
 obtain⟨al,hal⟩:∃al,allL cs B L=al:=⟨_,rfl⟩
 rw[hal]
 obtain⟨rm,hrm⟩:∃rm,room B al.length most=rm:=⟨_,rfl⟩
 rw[hrm];have HAE:=Lib.hid hal;have HRM:=Lib.hid hrm;clear hal hrm;have HR:=Lib.hid h;have HV:=Lib.hid hv;have HCS:=Lib.hid hc;have HL:=Lib.hid hl;have HMO:=Lib.hid hm;have HHL:=Lib.hid hll
 obtain⟨_,hb0,hcp0,hhv,hhf⟩:=hh.form
 simp only[Value.slice.injEq] at hhv
 obtain⟨rfl,hq9,rfl⟩:=hhv
 clear hq9;have HHF:=Lib.hid hhf;have HOB:Hid (B.ob.length≤500):=Lib.hid (by have h:=hv.num;unfold vNum at h;exact h.2.2.2.2.2.1);have HQU:Hid (B.qu.length≤200):=Lib.hid (by have h:=hv.num;unfold vNum at h;exact h.2.2.2.2.2.2.2);clear h hv hc hl hm hh hhf hll;go_enter Try.func18,Try.ntmps18
 go_upto_region 1 with fail
 change Code.wp Try.prog _ _ _ ((w.alloc (.cells (bcells s B) 34)).alloc (.cells (bcells nilS zeroB) 34))
 obtain⟨wz,hwz⟩:∃W,W=((w.alloc (.cells (bcells s B) 34)).alloc (.cells (bcells nilS zeroB) 34)):=⟨_,rfl⟩
 rw[←hwz];have b0:Below w.heap.size w (w.alloc (.cells (bcells s B) 34)):=by exact(Below.refl _ _).alloc (Nat.le_refl _) _
 have b1:Below (w.alloc (.cells (bcells s B) 34)).heap.size (w.alloc (.cells (bcells s B) 34)) wz:=by rw[hwz];exact(Below.refl _ _).alloc (Nat.le_refl _) _
 have HB:Hid (Below w.heap.size w wz):=Lib.hid (below_via b0 b1);have HXb:Hid (Bx wz (w.heap.size) s B):=Lib.hid ((Ro.new w (bcells s B) 34).below b1:Ro _ _ _ _);have HXz:Hid (Bx wz (w.heap.size+1) nilS zeroB):=Lib.hid (by rw[show w.heap.size+1=(w.alloc (.cells (bcells s B) 34)).heap.size by simp];exact(by rw[hwz];exact(Ro.new (w.alloc (.cells (bcells s B) 34)) (bcells nilS zeroB) 34)));have HC1:Hid (w.heap.size+2≤wz.heap.size):=Lib.hid (by rw[hwz];simp);clear hwz b0 b1;go_wp2_with (first|(refine wpList_load_bx _ rfl rfl HXb.out (by kernel_rfl) ?_))
 with_reducible refine(rcopy s B _ (HR.out.below HB.out) HV.out.sm HV.out.tl).mono ?_
 rintro e w1 ⟨sc,rfl,ho,hb⟩;have HC2:Hid (wz.heap.size≤w1.heap.size):=Lib.hid (hb.size);replace HB:=Lib.hid (below_via HB.out hb);replace HXb:=Lib.hid (HXb.out.below hb);replace HXz:=Lib.hid (HXz.out.below hb);have HOc:=Lib.hid ho;clear ho hb;go_wp2_with (first|(refine wpList_store_bh rfl _ _ rfl rfl rfl (heap_alloc_new _ _) rfl ?_))
 intro w2 hw0;have hbx:=boxed hw0.out
 obtain⟨nc,hn⟩:∃n,n=w1.heap.size:=⟨_,rfl⟩
 rw[←hn] at hbx ⊢
 have hb:=hbx.1;rw[hn] at hb
 clear hw0;replace HB:=Lib.hid (below_via HB.out hb);replace HXb:=Lib.hid (HXb.out.below hb);replace HXz:=Lib.hid (HXz.out.below hb);replace HOc:=Lib.hid (HOc.out.below hb);have HXc:Hid (Bx w2 nc sc (B)):=Lib.hid hbx.2;have HC3:Hid (w1.heap.size≤nc∧nc<w2.heap.size):=Lib.hid (⟨by omega,hbx.2.lt⟩);clear hbx hn hb;have HS0:Hid (RcS w 0 0 nc B s [] most (.int .i64 0) w2):=Lib.hid ⟨by simp[room],⟨sc,by rw[co_zero];exact HXc.out,by rw[co_zero];exact HOc.out.mono (by(have o0:=HC1.out;have o1:=HC2.out;have o2:=HC3.out;have x0:=HXb.out.lt;have x1:=HXz.out.lt;have x2:=HXc.out.lt;omega)) (by(have o0:=HC1.out;have o1:=HC2.out;have o2:=HC3.out;have x0:=HXb.out.lt;have x1:=HXz.out.lt;have x2:=HXc.out.lt;omega)),fun _ _ h=>by omega⟩,HB.out,HXb.out,HXz.out⟩;have HNC:Hid (w.heap.size+1+1≤nc):=Lib.hid (by(have o0:=HC1.out;have o1:=HC2.out;have o2:=HC3.out;have x0:=HXb.out.lt;have x1:=HXz.out.lt;have x2:=HXc.out.lt;omega));have hll:L.length≤20:=HHL.out;clear HXc HOc HXb HXz HB HC1 HC2 HC3;go_wp2_with fail
 go_loopw [11,12] (fun dv i wr=>RcO w nc cs B s L most dv i wr) (fun _ i _=>L.length-(intOf i).toNat)
 case atStart=>exact⟨0,by omega,rfl,HS0.out⟩
 case round=>
  obtain⟨k,hk,rfl,hs⟩:=hrel
  have HS:=Lib.hid hs;have HDV:=hs.dv;clear hs HS0
  by_cases hkl:k<L.length
  case pos=>
   have t1:decide ((k:Int)<(L.length:Int))=true:=decide_eq_true (by omega);have t1':decide (k<L.length)=true:=decide_eq_true hkl
   obtain⟨x,hx⟩:∃x,L[k]? =some x:=⟨_,List.getElem?_eq_getElem hkl⟩
   obtain⟨b,off,rfl,hlb,hc⟩:=HHF.out (by omega)
   have hrg:wr.rangeAt b (off+k*3) (hpc x):=fun j u hu=>by rw[Nat.add_assoc];exact(HS.out.hb.cell (p:=⟨b,_,none⟩) hlb).trans (hc k x hx j u hu)
   have d0:wr.cell? ⟨b,off+k*3,none⟩=some (.int .i64 x.wh):=hrg 0 _ rfl;have d1:wr.cell? ⟨b,off+k*3+1,none⟩=some (.int .i64 x.id):=hrg 1 _ rfl;have d2:wr.cell? ⟨b,off+k*3+2,none⟩=some (.int .i64 x.pl):=hrg 2 _ rfl;replace hlb:b<wr.heap.size:=Nat.lt_of_lt_of_le hlb HS.out.hb.size;have HXX:=Lib.hid hx;have HXb:=Lib.hid HS.out.hx;have i1:(0:Int)≤(k:Int):=by omega
   have i2:(k:Int)<(L.length:Int):=by omega
   subst HDV;clear hc hrg hx
   go_upto_region 6 with fail
   clear t1 t1';refine rg18_6 (w0:=wr) (B:=wr.heap.size) (n:=wr.heap.size) (L:=[]) (by kernel_rfl) rfl (by kernel_rfl) (.t ⟨by go_grown,by go_size,(by simp[go_sem]<;>omega)⟩) (fun w91 K_w91 E_w91 F_w91=> ?_);have _ne:Nonempty (KX (wr.heap.size) wr (wr.heap.size) [] (fun _=>True)):=⟨⟨_,K_w91,E_w91⟩⟩;have qb0:∀W',(∃s':KX (wr.heap.size) wr (wr.heap.size) [] (fun _=>True),W' =s'.val)→Bx W' (w.heap.size) s (B):=by rintro _ ⟨s',rfl⟩;exact HXb.out.below s'.kept.below
   repeat (first|(go_big_quiet_want;(first|apply quiet_load_bx _ rfl rfl qb0);(focus(simp[go_sem];rfl));go_big_quiet_on)|go_big_quiet_step (fail))
   refine wpQuiet_nil ?_;have rh0:=rck _ne d0 hlb;have rh1:=rck _ne d1 hlb;have rh2:=rck _ne d2 hlb
   repeat (first|(go_big_quiet_want;(first|apply quiet_load_bx _ rfl rfl qb0);(focus(simp[go_sem];rfl));go_big_quiet_on)|go_big_quiet_step (fail))
   refine wpQuiet_nil ?_;have KH_w91:=Lib.hid K_w91;have hw_w91:=K_w91.below;have hz_w91:=K_w91.size;clear K_w91;clear E_w91 F_w91
   refine⟨fun K hK0=> ?_,trivial⟩
   have hK:=Lib.hid hK0;clear hK0;go_wp2_with fail
   with_reducible refine(rhofv v cs s B x _ ((HCS.out.below HS.out.hb).below KH_w91.out.below) HL.out ((HR.out.below HS.out.hb).below KH_w91.out.below) HV.out).mono ?_
   rintro e w5 ⟨xa,xc,rfl,hm,hb⟩;have HBY:Hid (Below wr.heap.size wr w5):=Lib.hid (below_via KH_w91.out.below hb);have HM:=Lib.hid hm;clear hb hm;go_wp2_with fail
   first|refine⟨rfl,hK.out _ _ ?_⟩|refine hK.out _ _ ?_
   clear hK K
   repeat (first|(go_big_quiet_want;(first|apply quiet_load_bx _ rfl rfl qb0);(focus(simp[go_sem];rfl));go_big_quiet_on)|go_big_quiet_step (fail))
   refine wpQuiet_nil ?_;clear rh0 rh1 rh2;clear _ne qb0;clear d0 d1 d2 hlb i1 i2
   obtain⟨X,hX⟩:∃X,hapK cs B x.wh x.id x.pl B.ob=X:=⟨_,rfl⟩
   rw[hX] at HM ⊢
   obtain⟨P,hP⟩:∃P,allL cs B (L.take k)=P:=⟨_,rfl⟩
   rw[hP] at HS ⊢
   have HPX:Hid (allL cs B (L.take (k+1))=P++X):=Lib.hid (by rw[←hP,←hX];exact allL_take HXX.out);have HXQ:Hid (∀x∈X,itQ x):=Lib.hid (by rw[←hX];exact hapK_Q HV.out);have HXL:Hid (X.length≤1000):=Lib.hid (by have h:=hapK_len cs B x.wh x.id x.pl B.ob;have:=HOB.out;rw[←hX];omega);have HPL:Hid (P.length≤20000):=Lib.hid (by have h:=allL_len cs HOB.out (L.take k);rw[List.length_take] at h;rw[←hP];omega)
   obtain⟨y1,hy1⟩:∃n,n=wr.heap.size:=⟨_,rfl⟩
   obtain⟨y2,hy2⟩:∃n,n=w5.heap.size:=⟨_,rfl⟩
   have HS1:Hid (RcS w y1 y2 nc B s (P++X.take 0) most (.int .i64 ((P.length:Int)-(room B P.length most:Nat))) w5):=Lib.hid (by
    obtain⟨h1,⟨s',h2,h3,_⟩,h4,h5,h6⟩:=HS.out
    rw[List.take_zero,List.append_nil]
    exact⟨rfl,⟨s',h2.below HBY.out,(h3.below HBY.out).mono (Nat.le_refl _) HBY.out.size,fun b hb h=>by
     obtain⟨l0,_,hl,_⟩:=h3.qu
     have h7:=(hl.blk hb).2.1;omega⟩,below_via h4 HBY.out,h5.below HBY.out,h6.below HBY.out⟩)
   have HM0:Hid (Ox itc 5 60 y1 y2 w5 (.slice xa X.length xc) (X.map nilI)):=Lib.hid ((Ox.of HM.out).mono (by have h3:=KH_w91.out.size;omega) (by omega));have HY2:Hid (y2≤w5.heap.size):=Lib.hid (by omega);clear hX hP HS HM HBY HXb hy1 hy2
   obtain⟨dv0,hdv0⟩:∃z,z=(P.length:Int)-(room B P.length most:Nat):=⟨_,rfl⟩
   rw[←hdv0] at HS1 ⊢
   clear hdv0;go_wp2_with fail
   go_loopw [11,14] (fun dv i wr=>RcI w y1 y2 nc B s P X most xa xc dv i wr) (fun _ i _=>X.length-(intOf i).toNat)
   case atStart=>exact⟨0,by omega,rfl,HS1.out,HM0.out,HY2.out⟩
   case round=>
    obtain⟨m,hm,rfl,hs,hox,hy2⟩:=hrel
    have HS:=Lib.hid hs;have HOW:=Lib.hid hox;have HDV:=hs.dv;have hxl9:X.length≤9223372036854775807:=by have:=HXL.out;omega
    replace HY2:=Lib.hid hy2;clear hs HS1 HM0 hox hy2
    by_cases hml:m<X.length
    case neg=>
     obtain rfl:m=X.length:=by omega
     have t1:decide ((X.length:Int)<(X.length:Int))=false:=decide_eq_false (by omega);have t1':decide (X.length<X.length)=false:=decide_eq_false (by omega);rw[List.take_length] at HS HDV
     go_wp2_with fail
     go_roundw
     case rel=>exact⟨k+1,by omega,by go_num,by rw[HPX.out];exact HS.out.any⟩
     case measure=>simp[intOf];omega
    case pos=>
    have t1:decide ((m:Int)<(X.length:Int))=true:=decide_eq_true (by omega);have t1':decide (m<X.length)=true:=decide_eq_true hml
    obtain⟨x2,hx2⟩:∃x,X[m]? =some x:=⟨_,List.getElem?_eq_getElem hml⟩
    obtain⟨s',hxc,hoc,hne⟩:=HS.out.ex
    have HNE:=Lib.hid hne;have HXc:=Lib.hid hxc;have HOc:=Lib.hid hoc;have HXz:=Lib.hid HS.out.hz;have HXb:=Lib.hid HS.out.hx;have HB:=Lib.hid HS.out.hb;have HNX:Hid (P++X.take (m+1)=(P++X.take m)++[x2]):=Lib.hid (by rw[List.take_add_one,hx2];simp)
    obtain⟨Q,hQ⟩:∃Q,P++X.take m=Q:=⟨_,rfl⟩
    rw[hQ] at HNX HXc HOc HDV hxc hoc
    have HQL:Hid (Q.length≤30000):=Lib.hid (by have h1:=HPL.out;have h2:=HXL.out;rw[←hQ,List.length_append,List.length_take];omega)
    obtain⟨l',hl',hoxq,hot⟩:=hoc.qu
    obtain⟨qa,qc,hqv⟩:=hoxq.1.form
    have hll2:l'.length=(coB B Q most).qu.length:=by rw[←hl',List.length_map]
    have hqm:(coB B Q most).qu.length≤200:=by
     show(B.qu++Q.take (room B Q.length most)).length≤200
     have:=HQU.out
     rw[List.length_append,List.length_take];unfold room;omega
    rw[hqv,hll2] at hoxq
    rw[hll2] at hqv
    have k30:wr.cell? ⟨nc,30,none⟩=some (.slice qa (coB B Q most).qu.length qc):=by rw[←hqv];exact hxc.cell 30
    obtain⟨qn,hqn⟩:∃n,n=(coB B Q most).qu.length:=⟨_,rfl⟩
    rw[←hqn] at k30 hqv hoxq hqm hll2
    have HQN:=Lib.hid hqn;have HLQ:=Lib.hid hl';have HLL:=Lib.hid hll2;have HOXQ:=Lib.hid hoxq;have HOT:=Lib.hid hot;have HQV:=Lib.hid hqv;have HQM:=Lib.hid hqm;have HX2:=Lib.hid hx2;have HTGX:Hid (x2.tg=[]):=Lib.hid ((HXQ.out x2 (List.mem_of_getElem? hx2)).2.2.2.2);have HNC2:Hid (nc<wr.heap.size):=Lib.hid hxc.lt;have hnc:=HNC2.out
    obtain⟨dr,hdr⟩:∃d:Int,d=(Q.length:Int)-(room B Q.length most:Nat):=⟨_,rfl⟩
    rw[←hdr] at HDV
    have HDR:=Lib.hid hdr;subst HDV;clear hl' hoxq hot hqv hxc hoc hQ hqn hll2 hx2 HS hdr hne
    by_cases hc2:(qn:Int)<most∧qn<200
    case pos=>
     have q1:decide ((qn:Int)<most)=true:=decide_eq_true hc2.1;have q2:decide ((qn:Int)<200)=true:=decide_eq_true (by omega);have q2':decide (qn<200)=true:=decide_eq_true hc2.2;have HYS:=Lib.hid (co_yes (B:=B) (P:=Q) (most:=most) x2 (by rw[←HQN.out];exact hc2.1) (by rw[←HQN.out];exact hc2.2));have HQ2:Hid (qn<200):=Lib.hid hc2.2;clear hc2
     go_upto_region 11 with fail
     clear q1 q2 q2' t1 t1'
     obtain⟨g,xcap,hgv,hlg⟩:∃g cap,(Value.slice xa X.length xc)= .slice (some ⟨g,0,none⟩) X.length cap∧g<wr.heap.size:=by
      obtain⟨g,c,e,_,_,h2⟩:=HOW.out.pos (by rw[List.length_map];omega)
      exact⟨g,c,by rw[List.length_map] at e;exact e,h2⟩
     simp only[Value.slice.injEq] at hgv
     obtain⟨rfl,hq8,rfl⟩:=hgv
     clear hq8;have hit:(X.map nilI)[m]? =some (nilI x2):=by rw[List.getElem?_map,HX2.out];rfl
     have hrg:wr.rangeAt g (m*5) (itc (nilI x2)):=HOW.out.range itc_len hit;have e0:wr.cell? ⟨g,m*5,none⟩=some (.int .i64 x2.pl):=hrg 0 _ rfl;have e1:wr.cell? ⟨g,m*5+1,none⟩=some (.int .i64 x2.id):=hrg 1 _ rfl;have e2:wr.cell? ⟨g,m*5+2,none⟩=some (.int .i64 x2.cd):=hrg 2 _ rfl;have e3:wr.cell? ⟨g,m*5+3,none⟩=some (.int .i64 x2.tr):=hrg 3 _ rfl;have e4:wr.cell? ⟨g,m*5+4,none⟩=some (.slice none 0 0):=hrg 4 _ rfl;have j1:(0:Int)≤(m:Int):=by omega
     have j2:(m:Int)<(X.length:Int):=by omega
     have HNC3:Hid (w.heap.size≤wr.heap.size):=Lib.hid HB.out.size;clear hit hrg;refine rg18_11 (w0:=wr) (B:=wr.heap.size) (n:=wr.heap.size) (L:=[]) (by kernel_rfl) rfl (by kernel_rfl) (.t ⟨by go_grown,by go_size,(by simp[go_sem]<;>omega)⟩) (fun w91 K_w91 E_w91 F_w91=> ?_);have _ne:Nonempty (KX (wr.heap.size) wr (wr.heap.size) [] (fun _=>True)):=⟨⟨_,K_w91,E_w91⟩⟩
     repeat (go_big_quiet_step (fail))
     refine wpQuiet_nil ?_;have ra:=rck _ne k30 hnc;have rb0:=rck _ne e0 hlg;have rb1:=rck _ne e1 hlg;have rb2:=rck _ne e2 hlg;have rb3:=rck _ne e3 hlg;have rb4:=rck _ne e4 hlg
     repeat (go_big_quiet_step (fail))
     refine wpQuiet_nil ?_;have KH_w91:=Lib.hid K_w91;have hw_w91:=K_w91.below;have hz_w91:=K_w91.size;clear K_w91;clear E_w91 F_w91
     refine⟨fun K hK0=> ?_,trivial⟩
     have hK:=Lib.hid hK0;clear hK0;go_wp2_with fail
     first|refine⟨rfl,?u,hK.out _ _ ?_⟩|refine⟨?u,hK.out _ _ ?_⟩
     case u=>exact⟨⟨_,KH_w91.out.step (by omega) ((Below.refl _ _).alloc (Nat.le_refl _) _),trivial⟩,rfl⟩
     clear hK K
     refine⟨fun K hK0=> ?_,trivial⟩
     have hK:=Lib.hid hK0;clear hK0;go_wp2_with (at_builtin;refine wpList_append_ow (f:=itc) (sz:=5) rfl _ _ 30 rfl w.heap.size 60 (.agg #[.int .i64 0,.int .i64 0,.int .i64 0,.int .i64 0,.slice none 0 0]) 56 Try.underlying30 infoX rfl (by decide) _ l' rfl (HOXQ.out.1.below (KH_w91.out.below.alloc KH_w91.out.size _)) itc_ok _ [nilI x2] rfl (Rw.one2 (f:=itc) (sz:=5) _ 60 (nilI x2) #[.int .i64 x2.pl,.int .i64 x2.id,.int .i64 x2.cd,.int .i64 x2.tr,.slice none 0 0] rfl 1 _ rfl) ?c2 ?c3 ?c4 ?_)
     case c2=>have h1:=HLL.out;have h2:=HQM.out;simp only[maxLen];simp;omega
     case c3=>have h1:=HLL.out;have h2:=HQM.out;simp;omega
     case c4=>have h1:=HNC3.out;have h2:=KH_w91.out.size;simp;omega
     intro v8 w8 ho8 hg8 hv8
     obtain⟨va,vc,rfl⟩:=ho8.form
     obtain⟨n1,hn1⟩:∃n1,n1=(l'++[nilI x2]).length:=⟨_,rfl⟩
     rw[←hn1] at ho8 hv8 ⊢
     have hgz:wr.grownBy w8 (Value.slice qa qn qc).ownBlock:=grown_trans (grown_below (KH_w91.out.below.alloc KH_w91.out.size _)) hg8;have hrow:∀q,(Value.slice qa qn qc).ownBlock=some q→w.heap.size≤q∧q<wr.heap.size:=fun q hq=>⟨(HOXQ.out.blk hq).1,(HOXQ.out.blk hq).2.1⟩
     have hrt:=(HOXQ.out).1.typ
     have hbt:∀(P:Nat) (S:Bs) (D:Bd),Bx wr P S D→Bx w8 P S D:=fun P S D h=>h.grown hgz (fun e=>by
      obtain⟨_,_,cur,h1⟩:=hrt P e
      have h2:wr.heap[P]? =some (.cells (bcells S D) 34 (0,0)):=h;rw[h1] at h2
      simp at h2)
     have hxc:=hbt _ _ _ HXc.out;have hxz:=hbt _ _ _ HXz.out;have hxb:=hbt _ _ _ HXb.out;have hb8:Below w.heap.size w w8:=HB.out.grown hgz HB.out.size (fun q hq=>(hrow _ hq).1)
     have hq8:ItO w.heap.size w8.heap.size w8 (.slice va n1 vc) ((coB B Q most).qu++[x2]):=ItO.grew (m:=[nilI x2]) HLQ.out HOXQ.out HOT.out ho8 hgz (fun y hy=>by
      have e:=List.mem_singleton.1 hy;subst e
      exact⟨.inl rfl,HTGX.out⟩) hgz.size
     have ho2:=HOc.out.newQu (Nat.le_refl _) ⟨va,n1,vc⟩ _ (by rw[HQV.out];exact hgz) hq8 (by
      rw[HQV.out];rcases hv8 with h1|h1
      ·exact .inl h1
      ·exact .inr ⟨_,h1,by have h2:=KH_w91.out.size;simp;omega⟩)
     have hne2:∀b,(Value.slice va n1 vc).ownBlock=some b→¬(y1≤b∧b<y2):=fun b hb=>by
      rcases hv8 with h1|h1
      ·exact HNE.out b (by rw[HQV.out,←h1];exact hb)
      ·rw[h1] at hb
       have h2:=KH_w91.out.size;have h3:=HY2.out;have e:=Option.some.inj hb
       first|(simp at e;omega)|omega
     have how:Ox itc 5 60 y1 y2 w8 (.slice (some ⟨g,0,none⟩) X.length xc) (X.map nilI):=HOW.out.keep (fun q a b hq=>hgz.block q (HOW.out.blk hq).2.2 (fun e=>HNE.out q (by rw[HQV.out];exact e.symm) ⟨a,b⟩));replace HOW:=Lib.hid how;have HN2:=Lib.hid hne2;replace HOc:=Lib.hid ho2;replace HB:=Lib.hid hb8;replace HXc:=Lib.hid hxc;replace HXz:=Lib.hid hxz;replace HXb:=Lib.hid hxb;have HCz:Hid (wr.heap.size≤w8.heap.size):=Lib.hid hgz.size;have d30:w8.cell? ⟨nc,30,none⟩=some (s'.qu.v):=hxc.cell 30;have f30:w8.frozen? ⟨nc,30,none⟩=false:=hxc.free 30;clear ho8 hg8 hv8 hrow hrt hbt hxc hxz hxb hb8 hq8 ho2 HOT hn1 hne2 how HOXQ hgz k30 e0 e1 e2 e3 e4;go_wp2_with fail
     first|refine⟨rfl,hK.out _ _ ?_⟩|refine hK.out _ _ ?_
     clear hK K
     repeat (go_big_quiet_step (fail))
     refine wpQuiet_nil ?_
     refine⟨fun K hK0=> ?_,trivial⟩
     have hK:=Lib.hid hK0;clear hK0;go_wp2_with fail
     first|refine⟨rfl,hK.out _ _ ?_⟩|refine hK.out _ _ ?_
     clear hK K;clear ra rb0 rb1 rb2 rb3 rb4;clear _ne
     obtain⟨w9,hw⟩:∃X,X=w8.setCell ⟨nc,30,none⟩ (.slice va n1 vc):=⟨_,rfl⟩
     rw[←hw];have hon:Onl [nc] w8 w9:=by rw[hw];exact Onl.setCell (Onl.refl _ _) (.inl (by simp)) _
     have hx:Bx w9 nc ({s' with qu:=⟨va,n1,vc⟩}) ({coB B Q most with qu:=(coB B Q most).qu++[x2]}):=by rw[hw];exact HXc.out.put 30 _ rfl
     replace HOW:=Lib.hid (HOW.out.other (grown_onl hon) (fun b hb=>by cases hb;exact⟨_,HXc.out⟩) (by decide:60≠34) (Nat.le_refl _));clear hw d30 f30;have hlo:w.heap.size≤nc:=by(have o0:=HNC.out;have o1:=HNC2.out;have o2:=HNC3.out;have o3:=HCz.out;have x0:=HXc.out.lt;have x1:=HXz.out.lt;have x2:=HXb.out.lt;omega)
     have hls:w.heap.size≤w8.heap.size:=HB.out.size;replace HB:=Lib.hid (belowOnl HB.out hon (by simp only[List.mem_singleton,forall_eq];exact hlo) hls);replace HXz:=Lib.hid (HXz.out.onl hon (by simp only[List.mem_singleton];(have o0:=HNC.out;have o1:=HNC2.out;have o2:=HNC3.out;have o3:=HCz.out;have x0:=HXc.out.lt;have x1:=HXz.out.lt;have x2:=HXb.out.lt;omega)));replace HXb:=Lib.hid (HXb.out.onl hon (by simp only[List.mem_singleton];(have o0:=HNC.out;have o1:=HNC2.out;have o2:=HNC3.out;have o3:=HCz.out;have x0:=HXc.out.lt;have x1:=HXz.out.lt;have x2:=HXb.out.lt;omega)));replace HOc:=Lib.hid (HOc.out.onlB hon HXc.out);have HCr1:Hid (w8.heap.size≤w9.heap.size):=Lib.hid (hon.size);clear hlo hls;replace HXc:=Lib.hid hx;clear hx hon
     have HSN:Hid (RcS w y1 y2 nc B s (P++X.take (m+1)) most (.int .i64 dr) w9):=Lib.hid (by
      rw[HNX.out]
      refine⟨val_int (by rw[HYS.out.2.1,List.length_append,HDR.out,HYS.out.2.2];simp only[List.length_singleton];omega),⟨({s' with qu:=⟨va,n1,vc⟩}),?_,?_,HN2.out⟩,HB.out,HXb.out,HXz.out⟩
      ·rw[HYS.out.1];exact HXc.out
      ·rw[HYS.out.1];exact HOc.out.mono (Nat.le_refl _) (by(have o0:=HNC.out;have o1:=HNC2.out;have o2:=HNC3.out;have o3:=HCz.out;have o4:=HCr1.out;have x0:=HXc.out.lt;have x1:=HXz.out.lt;have x2:=HXb.out.lt;omega)))
     have HY3:Hid (y2≤w9.heap.size):=Lib.hid (by have h1:=HY2.out;(have o0:=HNC.out;have o1:=HNC2.out;have o2:=HNC3.out;have o3:=HCz.out;have o4:=HCr1.out;have x0:=HXc.out.lt;have x1:=HXz.out.lt;have x2:=HXb.out.lt;omega));go_wp2_with fail
     go_roundw
     case rel=>exact⟨m+1,by omega,by go_num,HSN.out,HOW.out,HY3.out⟩
     case measure=>simp[intOf];omega
    case neg=>
     have HNO:=Lib.hid (co_no (B:=B) (P:=Q) (most:=most) x2 (by rw[←HQN.out];exact hc2))
     have HSN:Hid (RcS w y1 y2 nc B s (P++X.take (m+1)) most (.int .i64 (dr+1)) wr):=Lib.hid (by
      rw[HNX.out]
      refine⟨val_int (by rw[HNO.out.2,List.length_append,HDR.out];simp only[List.length_singleton];omega),⟨s',?_,?_,HNE.out⟩,HB.out,HXb.out,HXz.out⟩
      ·rw[HNO.out.1];exact HXc.out
      ·rw[HNO.out.1];exact HOc.out)
     have HDB:Hid (0≤dr∧dr≤30000):=Lib.hid (by have h1:=room_le B Q.length most;have h2:=HQL.out;rw[HDR.out];omega);have hdb1:=HDB.out.1;have hdb2:=HDB.out.2
     by_cases hm2:(qn:Int)<most
     ·have q1:decide ((qn:Int)<most)=true:=decide_eq_true hm2
      have q2:decide ((qn:Int)<200)=false:=decide_eq_false (by omega);have q2':decide (qn<200)=false:=decide_eq_false (by omega);clear hc2 hm2;go_wp2_with fail
      go_roundw
      case rel=>
       have hwd:wrap64 (dr+1)=dr+1:=by unfold wrap64;omega
       refine⟨m+1,by omega,by go_num,?_,HOW.out,HY2.out⟩
       first|(rw[hwd];exact HSN.out)|exact HSN.out
      case measure=>simp[intOf];omega
     ·have q1:decide ((qn:Int)<most)=false:=decide_eq_false hm2
      clear hc2 hm2;go_wp2_with fail
      go_roundw
      case rel=>
       have hwd:wrap64 (dr+1)=dr+1:=by unfold wrap64;omega
       refine⟨m+1,by omega,by go_num,?_,HOW.out,HY2.out⟩
       first|(rw[hwd];exact HSN.out)|exact HSN.out
      case measure=>simp[intOf];omega
  case neg=>
  obtain rfl:k=L.length:=by omega
  rw[List.take_length] at HS HDV
  have t1:decide ((L.length:Int)<(L.length:Int))=false:=decide_eq_false (by omega);have t1':decide (L.length<L.length)=false:=decide_eq_false (by omega);rw[HAE.out,HRM.out] at HDV
  rw[HAE.out] at HS
  obtain⟨s',hx,ho,_⟩:=HS.out.ex
  have HXc:=Lib.hid hx;have HOc:=Lib.hid ho;have HXz:=Lib.hid HS.out.hz;have HB:=Lib.hid HS.out.hb;have HNC3:Hid (w.heap.size≤wr.heap.size):=Lib.hid HB.out.size;subst HDV;clear hx ho HS
  go_upto_region 13 with fail
  clear t1 t1';go_wp2_with (first|(refine wpList_load_bx _ rfl rfl HXc.out (by kernel_rfl) ?_)|(refine wpList_store_bh (s:=s') (B:=(coB B al most)) rfl _ _ rfl rfl rfl HXz.out rfl ?_;intro wt1 hw9))
  have hg9:Bx wt1 (w.heap.size+1) s' ((coB B al most)):=by rw[hw9.out];exact Bx.row HXz.out _ _
  have ho9:Onl [w.heap.size+1] wr wt1:=by rw[hw9.out];exact Onl.setRow (Onl.refl _ _) (.inl (by simp)) _
  have hlo:w.heap.size≤w.heap.size+1:=by(have o0:=HNC.out;have o1:=HNC3.out;have x0:=HXc.out.lt;have x1:=HXz.out.lt;omega)
  have hb9:Below w.heap.size w wt1:=belowOnl HB.out ho9 (by simp only[List.mem_singleton,forall_eq];exact hlo) HB.out.size;have HG9:=Lib.hid hg9;have HPOST:Hid (BrA w ((coB B al most)) ((.int .i64 ((al.length:Int)-(rm:Nat)))) (.returned (.tuple #[bv s' ((coB B al most)),(.int .i64 ((al.length:Int)-(rm:Nat)))])) wt1):=Lib.hid ⟨_,rfl,(HOc.out.onlB ho9 HXz.out).mono (by(have o0:=HNC.out;have o1:=HNC3.out;have x0:=HXc.out.lt;have x1:=HXz.out.lt;omega)) (by have h9:=ho9.size;(have o0:=HNC.out;have o1:=HNC3.out;have x0:=HXc.out.lt;have x1:=HXz.out.lt;omega)),hb9⟩;clear hw9 hg9 ho9 hb9 hlo;go_wp2_with fail
  exact bodyPost_ret (v:= .tuple #[bv s' ((coB B al most)),(.int .i64 ((al.length:Int)-(rm:Nat)))]) (results_b1 Try.results18 _ _ HG9.out rfl rfl) rfl HPOST.out
end Go.Proofs.Ytgkgbpapfjjkcaa
