/- Collecting triggers, by the code. -/
import Derived.Test.YtpbepnpnpopmfaaGreatTOg
import Derived.Test.YtpbepnpnpopmfaaGreatTPu
import Derived.Deep.DeepCutAuto
import Derived.LoopTactic
import Derived.Deep.MidRow
open Go.RowKit Go.Proofs.YtpbepnpnpopmfaaGreat
set_option maxRecDepth 100000
set_option maxHeartbeats 4000000
namespace Go.Proofs.YtpbepnpnpopmfaaGreat
open Plain
set_option linter.unusedVariables false
set_option linter.unusedSimpArgs false

theorem rg65_11{P:Program}{B n:Nat}{w0:World}{L:List (Nat×Nat×Value)}{E F:World->Prop}{id:Nat}{Q:Exit->Act->World->Prop}{a:Act}{w:World}{A:Array Oper}{o0 o1 o2 o3 o4 o5 o6 o7:Oper}(hm:P.follows .mixedOrders=true)(hA:A=[o0,o1,o2,o3,o4,o5,o6,o7].toArray)(hB:regOk A [1] [0,2,3,4,6] (.fs [0,2,3,4] (.rs [1] (.altc 5 (.fs [6] (.altc 7 .done .stop)) .stop)))=true)(c:RC B w0 n L E F w)
  (h:∀wk,Kept B w0 n L wk->E wk->F wk->wpQuiet P A (fun _=>True) (fun a0=>wpQuiet P A (fun w' =>∃s:KX B w0 n L E,w' =s.val) (fun a1=>((∀K2:Act->World->Prop,(∀a2 w2,wpQuiet P A (fun _=>True) (fun a3=>((∀K4:Act->World->Prop,(∀a4 w4,Q .normal a4 w4->K4 a4 w4)->wpList P A (fun e a4 w4=>e= .normal/\K4 a4 w4) [o7] a3 w2)/\True)) [o6] a2->K2 a2 w2)->wpList P A (fun e a2 w2=>e= .normal/\K2 a2 w2) [o5] a1 wk)/\True)) [o1] a0) [o0,o2,o3,o4] a):(Code.region id A true).wp P Q a w:=by
 subst hA;exact wp_reg _ _ _ hm hB c (fun wk k e f=>have g:=h wk k e f;Scr.of_fs _ _ rfl g fun _ g=>Scr.of_rs _ _ rfl g fun _ g=>(Scr.of_altc rfl (g.1 _ fun _ _ g=>g) (fun _ _ g=>Scr.of_fs _ _ rfl g fun _ g=>(Scr.of_altc rfl (g.1 _ fun _ _ g=>g) (fun _ _ g=>g) trivial)) trivial))
structure Plain.Hp where
 wh:Int
 id:Int
 pl:Int
def hpc(h:Hp):List Value:=[.int .i64 h.wh,.int .i64 h.id,.int .i64 h.pl]
theorem hpc_ok:∀z:Hp,(hpc z).length=3/\∀u∈hpc z,u.oneCell' =true:=fun z=>⟨rfl,fun u hu=>by simp[hpc] at hu;rcases hu with rfl|rfl|rfl<;>rfl⟩
theorem hpc_len{l:List Hp}:∀x∈l,(hpc x).length=3:=fun _ _=>rfl
def Plain.allL(cs:List (Cd×List (Int×Nat)))(B:Bd)(L:List Hp):List It:=L.flatMap (fun h=>hapK cs B h.wh h.id h.pl B.ob)
theorem allL_len(cs:List (Cd×List (Int×Nat))){B:Bd}(h:B.ob.length<=500)(L:List Hp):(allL cs B L).length<=1000*L.length:=by
 induction L with
 |nil=>simp[allL]
 |cons a l ih=>
  have h1:=hapK_len cs B a.wh a.id a.pl B.ob;unfold allL at*
  rw[List.flatMap_cons,List.length_append,List.length_cons];omega
theorem allL_take{cs:List (Cd×List (Int×Nat))}{B:Bd}{L:List Hp}{k:Nat}{x:Hp}(hx:L[k]? =some x):allL cs B (L.take (k+1))=allL cs B (L.take k)++hapK cs B x.wh x.id x.pl B.ob:=by
 unfold allL;rw[List.take_add_one,hx,List.flatMap_append]
 simp
def Plain.room(B:Bd)(n:Nat)(most:Int):Nat:=min n (min most 200-(B.qu.length:Int)).toNat
theorem room_le(B:Bd)(n:Nat)(most:Int):room B n most<=n:=Nat.min_le_left _ _
def Plain.coB(B:Bd)(all:List It)(most:Int):Bd:={B with qu:=B.qu++all.take (room B all.length most)}
theorem trO_Q{cs:List (Cd×List (Int×Nat))}{wh:Int}{o:Ob}(h:vO o=true)(hc:0<=o.cd):∀x∈trO cs wh o,itQ x:=fun x hx=>by
 have key:∀(ws:List Int) (k:Nat),∀x∈ofK ws o wh k,itQ x:=by
  intro ws k
  induction k with
  |zero=>intro x hx;simp[ofK] at hx
  |succ k ih=>
   intro x hx;rw[ofK] at hx
   rcases List.mem_append.1 hx with h1|h1
   ·exact ih x h1
   split at h1
   ·rename_i hk
    have e:=List.mem_singleton.1 h1;subst e;unfold vO at h
    have h2:=of_decide_eq_true h
    refine⟨?_,?_,?_,?_,rfl⟩<;>(simp only[trI];omega)
   simp at h1
 exact key _ _ x hx
theorem trO_neg{cs:List (Cd×List (Int×Nat))}{wh:Int}{o:Ob}(hc:o.cd<0):trO cs wh o=[]:=by
 unfold trO ofI cardX whens;rw[if_pos hc]
 rfl
theorem hapK_Q{cs:List (Cd×List (Int×Nat))}{B:Bd}{wh id pl:Int}(h:VB B):∀x∈hapK cs B wh id pl B.ob,itQ x:=fun x hx=>by
 unfold hapK at hx
 obtain⟨o,ho,hx⟩:=List.mem_flatMap.1 hx
 split at hx
 ·obtain⟨i,hi⟩:=List.getElem?_of_mem ho
  rcases Int.lt_or_le o.cd 0 with h1|h1
  ·rw[trO_neg h1] at hx;simp at hx
  exact trO_Q (h.plc.ob i o hi).1 h1 x hx
 simp at hx
theorem allL_Q{cs:List (Cd×List (Int×Nat))}{B:Bd}{L:List Hp}(h:VB B):∀x∈allL cs B L,itQ x:=fun x hx=>by
 unfold allL at hx
 obtain⟨a,_,hx⟩:=List.mem_flatMap.1 hx
 exact hapK_Q h x hx
theorem VB.co{B:Bd}{all:List It}{most:Int}(h:VB B)(hq:∀x∈all,itQ x):VB (coB B all most):=by
 refine⟨?_,h.se0,h.se1,⟨h.its.1,?_⟩,⟨h.plc.nd,h.plc.ob,h.plc.len⟩,⟨h.fgt.nd,h.fgt.own,h.fgt.na,h.fgt.nb,h.fgt.bl⟩⟩
 ·have hn:=h.num
  unfold vNum at hn ⊢
  refine⟨hn.1,hn.2.1,hn.2.2.1,hn.2.2.2.1,hn.2.2.2.2.1,hn.2.2.2.2.2.1,hn.2.2.2.2.2.2.1,?_⟩
  show(B.qu++all.take (room B all.length most)).length<=200
  rw[List.length_append,List.length_take];unfold room;omega
 show(B.qu++all.take _).all _=true
 rw[List.all_append,h.its.2,Bool.true_and];exact List.all_eq_true.2 (fun x hx=>itQ_B (hq x (List.mem_of_mem_take hx)) true)
theorem hofv(v:Value)(cs:List (Cd×List (Int×Nat)))(s:Bs)(B:Bd)(x:Hp)(w:World)(hc:CsR w v cs)(hl:Lt cs)(h:BdR w s B)(hid:Plain.I x.id)(hv:VB B):Calls Tryz.prog 89 #[v,bv s B,.agg (hpc x).toArray] w (OfA w (hapK cs B x.wh x.id x.pl B.ob)):=hof v cs s B x.wh x.id x.pl w hc hl h hv.i hv.sm hid hv
def ClL(W:World)(cs:List (Cd×List (Int×Nat)))(B:Bd)(L:List Hp)(lv i:Value)(wr:World):Prop:=∃(k:Nat) (a:Option Addr) (c:Nat),k<=L.length/\i= .int .i64 k/\lv= .slice a (allL cs B (L.take k)).length c/\Below W.heap.size W wr/\Ow itc 5 73 wr W.heap.size (.slice a (allL cs B (L.take k)).length c) ((allL cs B (L.take k)).map nilI)
theorem collect_neg(v:Value)(cs:List (Cd×List (Int×Nat)))(s:Bs)(B:Bd)(ha:Option Addr)(hcp:Nat)(L:List Hp)(most:Int)(w:World)(hm:most<0):Calls Tryz.prog 65 #[v,bv s B,.slice ha L.length hcp,.int .i64 most] w (BrP w zeroB (.int .i64 0) (.int .i64 2)):=by
 have tm:decide (most<0)=true:=decide_eq_true hm;clear hm;go_enter Tryz.func65,Tryz.ntmps65
 go_upto_region 1 with fail
 change Code.wp Tryz.prog _ _ _ ((w.alloc (.cells (bcells s B) 34)).alloc (.cells (bcells nilS zeroB) 34))
 obtain⟨wz,hwz⟩:∃W,W=((w.alloc (.cells (bcells s B) 34)).alloc (.cells (bcells nilS zeroB) 34)):=⟨_,rfl⟩
 rw[<-hwz];have b0:Below w.heap.size w (w.alloc (.cells (bcells s B) 34)):=by exact(Below.refl _ _).alloc (Nat.le_refl _) _
 have b1:Below (w.alloc (.cells (bcells s B) 34)).heap.size (w.alloc (.cells (bcells s B) 34)) wz:=by rw[hwz];exact(Below.refl _ _).alloc (Nat.le_refl _) _
 have HB:Hid (Below w.heap.size w wz):=Hd (below_via b0 b1);have HXb:Hid (Bx wz (w.heap.size) s B):=Hd ((Ro.new w (bcells s B) 34).below b1:Ro _ _ _ _);have HXz:Hid (Bx wz (w.heap.size+1) nilS zeroB):=Hd (by rw[show w.heap.size+1=(w.alloc (.cells (bcells s B) 34)).heap.size by simp];exact(by rw[hwz];exact(Ro.new (w.alloc (.cells (bcells s B) 34)) (bcells nilS zeroB) 34)));have HC1:Hid (w.heap.size+2<=wz.heap.size):=Hd (by rw[hwz];simp);clear hwz b0 b1
 go_upto_region 2 with fail
 go_wp2_with (first|(refine wpList_store_bh (s:=nilS) (B:=zeroB) rfl _ _ rfl rfl rfl HXz.o rfl ?_;intro w1 hw9))
 have hg9:Bx w1 (w.heap.size+1) nilS (zeroB):=by rw[hw9.out];exact Bx.row HXz.o _ _
 have ho9:Onl [w.heap.size+1] wz w1:=by rw[hw9.out];exact Onl.setRow (Onl.refl _ _) (.inl (by simp)) _
 have hlo:w.heap.size<=w.heap.size+1:=by(have o0:=HC1.o;have x0:=HXb.o.lt;have x1:=HXz.o.lt;omega)
 have hb9:Below w.heap.size w w1:=belowOnl HB.o ho9 (by simp only[List.mem_singleton,forall_eq];exact hlo) HB.o.size;have HG9:=Hd hg9;have HPOST:Hid (BrP w (zeroB) (.int .i64 0) (.int .i64 2) (.returned (.tuple #[bv nilS (zeroB),.int .i64 0,.int .i64 2])) w1):=Hd ⟨_,rfl,zeroOwn _ _ _,hb9⟩;clear hw9 hg9 ho9 hb9 hlo;go_wp2_with fail
 exact bodyPost_ret (v:= .tuple #[bv nilS (zeroB),.int .i64 0,.int .i64 2]) (results_b2 Tryz.results65 _ _ HG9.o rfl rfl rfl) rfl HPOST.o
theorem collect_bad(v:Value)(cs:List (Cd×List (Int×Nat)))(s:Bs)(B:Bd)(ha:Option Addr)(hcp:Nat)(L:List Hp)(most:Int)(w:World)(hm:0<=most)(h:BdR w s B)(hi:B.I)(hsm:B.Sm)(hv:¬VB B):Calls Tryz.prog 65 #[v,bv s B,.slice ha L.length hcp,.int .i64 most] w (BrP w zeroB (.int .i64 0) (.int .i64 2)):=by
 have tm:decide (most<0)=false:=decide_eq_false (by omega);clear hm;have HR:=Hd h;have HI:=Hd hi;have HSM:=Hd hsm;have HV:=Hd hv;clear h hi hsm hv;go_enter Tryz.func65,Tryz.ntmps65
 go_upto_region 1 with fail
 change Code.wp Tryz.prog _ _ _ ((w.alloc (.cells (bcells s B) 34)).alloc (.cells (bcells nilS zeroB) 34))
 obtain⟨wz,hwz⟩:∃W,W=((w.alloc (.cells (bcells s B) 34)).alloc (.cells (bcells nilS zeroB) 34)):=⟨_,rfl⟩
 rw[<-hwz];have b0:Below w.heap.size w (w.alloc (.cells (bcells s B) 34)):=by exact(Below.refl _ _).alloc (Nat.le_refl _) _
 have b1:Below (w.alloc (.cells (bcells s B) 34)).heap.size (w.alloc (.cells (bcells s B) 34)) wz:=by rw[hwz];exact(Below.refl _ _).alloc (Nat.le_refl _) _
 have HB:Hid (Below w.heap.size w wz):=Hd (below_via b0 b1);have HXb:Hid (Bx wz (w.heap.size) s B):=Hd ((Ro.new w (bcells s B) 34).below b1:Ro _ _ _ _);have HXz:Hid (Bx wz (w.heap.size+1) nilS zeroB):=Hd (by rw[show w.heap.size+1=(w.alloc (.cells (bcells s B) 34)).heap.size by simp];exact(by rw[hwz];exact(Ro.new (w.alloc (.cells (bcells s B) 34)) (bcells nilS zeroB) 34)));have HC1:Hid (w.heap.size+2<=wz.heap.size):=Hd (by rw[hwz];simp);clear hwz b0 b1;go_wp2_with (first|(refine wpList_load_bx _ rfl rfl HXb.o (by kernel_rfl) ?_))
 with_reducible refine(bvalid s (B) _ (HR.o.below HB.o) HI.o HSM.o).mono ?_
 rintro e w1 ⟨⟨r,rfl,hr⟩,hb⟩;have HC2:Hid (wz.heap.size<=w1.heap.size):=Hd (hb.size);replace HB:=Hd (below_via HB.o hb);replace HXb:=Hd (HXb.o.below hb);replace HXz:=Hd (HXz.o.below hb);obtain rfl:r=false:=by cases r with|false=>rfl|true=>exact absurd (hr.1 rfl) HV.o
 clear hr hb
 go_upto_region 2 with fail
 go_wp2_with (first|(refine wpList_store_bh (s:=nilS) (B:=zeroB) rfl _ _ rfl rfl rfl HXz.o rfl ?_;intro w2 hw9))
 have hg9:Bx w2 (w.heap.size+1) nilS (zeroB):=by rw[hw9.out];exact Bx.row HXz.o _ _
 have ho9:Onl [w.heap.size+1] w1 w2:=by rw[hw9.out];exact Onl.setRow (Onl.refl _ _) (.inl (by simp)) _
 have hlo:w.heap.size<=w.heap.size+1:=by(have o0:=HC1.o;have o1:=HC2.o;have x0:=HXb.o.lt;have x1:=HXz.o.lt;omega)
 have hb9:Below w.heap.size w w2:=belowOnl HB.o ho9 (by simp only[List.mem_singleton,forall_eq];exact hlo) HB.o.size;have HG9:=Hd hg9;have HPOST:Hid (BrP w (zeroB) (.int .i64 0) (.int .i64 2) (.returned (.tuple #[bv nilS (zeroB),.int .i64 0,.int .i64 2])) w2):=Hd ⟨_,rfl,zeroOwn _ _ _,hb9⟩;clear hw9 hg9 ho9 hb9 hlo;go_wp2_with fail
 exact bodyPost_ret (v:= .tuple #[bv nilS (zeroB),.int .i64 0,.int .i64 2]) (results_b2 Tryz.results65 _ _ HG9.o rfl rfl rfl) rfl HPOST.o
theorem collect_ok(v:Value)(cs:List (Cd×List (Int×Nat)))(s:Bs)(B:Bd)(ha:Option Addr)(hcp:Nat)(L:List Hp)(most:Int)(w:World)(hm:0<=most)(h:BdR w s B)(hv:VB B)(hc:CsR w v cs)(hl:Lt cs)(hh:Rw hpc 3 w (.slice ha L.length hcp) L)(hll:L.length<=210)(hid:∀x∈L,Plain.I x.id):Calls Tryz.prog 65 #[v,bv s B,.slice ha L.length hcp,.int .i64 most] w (BrP w (coB B (allL cs B L) most) (.int .i64 ((allL cs B L).length-(room B (allL cs B L).length most:Nat))) (.int .i64 0)):=by
 have tm:decide (most<0)=false:=decide_eq_false (by omega)
 obtain⟨al,hal⟩:∃al,allL cs B L=al:=⟨_,rfl⟩
 rw[hal]
 obtain⟨rm,hrm⟩:∃rm,room B al.length most=rm:=⟨_,rfl⟩
 rw[hrm];have HAE:=Hd hal;have HRM:=Hd hrm;have HRL:Hid (rm<=al.length):=Hd (by rw[<-hrm];exact room_le _ _ _);clear hal hrm;have HR:=Hd h;have HV:=Hd hv;have HCS:=Hd hc;have HL:=Hd hl;have HID:=Hd hid;have HMO:=Hd hm;have HHL:=Hd hll
 obtain⟨_,hb0,hcp0,hhv,hhf⟩:=hh.form
 simp only[Value.slice.injEq] at hhv
 obtain⟨rfl,hq9,rfl⟩:=hhv
 clear hq9;have HHF:=Hd hhf;have HOB:Hid (B.ob.length<=500):=Hd (by have h:=hv.num;unfold vNum at h;exact h.2.2.2.2.2.1);have HQU:Hid (B.qu.length<=200):=Hd (by have h:=hv.num;unfold vNum at h;exact h.2.2.2.2.2.2.2);clear h hv hc hl hid hm hh hhf hll;go_enter Tryz.func65,Tryz.ntmps65
 go_upto_region 1 with fail
 change Code.wp Tryz.prog _ _ _ ((w.alloc (.cells (bcells s B) 34)).alloc (.cells (bcells nilS zeroB) 34))
 obtain⟨wz,hwz⟩:∃W,W=((w.alloc (.cells (bcells s B) 34)).alloc (.cells (bcells nilS zeroB) 34)):=⟨_,rfl⟩
 rw[<-hwz];have b0:Below w.heap.size w (w.alloc (.cells (bcells s B) 34)):=by exact(Below.refl _ _).alloc (Nat.le_refl _) _
 have b1:Below (w.alloc (.cells (bcells s B) 34)).heap.size (w.alloc (.cells (bcells s B) 34)) wz:=by rw[hwz];exact(Below.refl _ _).alloc (Nat.le_refl _) _
 have HB:Hid (Below w.heap.size w wz):=Hd (below_via b0 b1);have HXb:Hid (Bx wz (w.heap.size) s B):=Hd ((Ro.new w (bcells s B) 34).below b1:Ro _ _ _ _);have HXz:Hid (Bx wz (w.heap.size+1) nilS zeroB):=Hd (by rw[show w.heap.size+1=(w.alloc (.cells (bcells s B) 34)).heap.size by simp];exact(by rw[hwz];exact(Ro.new (w.alloc (.cells (bcells s B) 34)) (bcells nilS zeroB) 34)));have HC1:Hid (w.heap.size+2<=wz.heap.size):=Hd (by rw[hwz];simp);clear hwz b0 b1;go_wp2_with (first|(refine wpList_load_bx _ rfl rfl HXb.o (by kernel_rfl) ?_))
 with_reducible refine(bvalid s (B) _ (HR.o.below HB.o) HV.o.i HV.o.sm).mono ?_
 rintro e w1 ⟨⟨r,rfl,hr⟩,hb⟩;have HC2:Hid (wz.heap.size<=w1.heap.size):=Hd (hb.size);replace HB:=Hd (below_via HB.o hb);replace HXb:=Hd (HXb.o.below hb);replace HXz:=Hd (HXz.o.below hb);obtain rfl:r=true:=hr.2 HV.o;clear hr hb;have hll:L.length<=210:=HHL.o;go_wp2_with fail
 clear tm
 go_loopw [11,26] (fun lv i wr=>ClL w1 cs B L lv i wr) (fun _ i _=>L.length-(intOf i).toNat)
 case atStart=>exact⟨0,none,0,by omega,rfl,rfl,Below.refl _ _,Ow.nil _ _ _⟩
 obtain⟨k,la,lc,hk,rfl,rfl,hb,ho⟩:=hrel
 have HBR:=Hd hb;have HOW:=Hd ho;have HAL:Hid ((allL cs B (L.take k)).length<=210000):=Hd (by have h:=allL_len cs HOB.o (L.take k);rw[List.length_take] at h;omega);clear ho
 by_cases hkl:k<L.length
 case pos=>
  obtain⟨x,hx⟩:∃x,L[k]? =some x:=⟨_,List.getElem?_eq_getElem hkl⟩
  obtain⟨b,off,rfl,hlb,hc⟩:=HHF.o (by omega)
  replace HXb:=Hd (HXb.o.below hb);have hrg:wr.rangeAt b (off+k*3) (hpc x):=fun j u hu=>by rw[Nat.add_assoc];exact((below_via HB.o hb).cell (p:=⟨b,_,none⟩) hlb).trans (hc k x hx j u hu)
  have HRG:=Hd hrg;have HXX:=Hd hx;have i1:(0:Int)<=(k:Int):=by omega
  have i2:(k:Int)<(L.length:Int):=by omega
  clear hc hrg hx hlb;clear hb;go_wp2_with (first|(refine wpList_store_rh rfl 95 ((hpc x).toArray) _ _ rfl rfl rfl (Ro.new _ _ _) rfl rfl (arr_one (hpc_ok x).2) ?_)|(refine wpList_load_mid rfl 95 _ rfl b (off+k*3) rfl (hpc x) _ HRG.o Tryz.underlying95 rfl rfl ?_))
  intro wr1 hw0;have hbx:=boxed_r hw0.out
  obtain⟨nh,hn⟩:∃n,n=wr.heap.size:=⟨_,rfl⟩
  rw[<-hn] at hbx ⊢
  have hb:=hbx.1;rw[hn] at hb
  clear hw0;replace HBR:=Hd (below_via HBR.o hb);replace HOW:=Hd (HOW.o.below hb);replace HXb:=Hd (HXb.o.below hb);have HXh:Hid (Ro wr1 nh ((hpc x).toArray) 95):=Hd hbx.2;have HCr1:Hid (wr.heap.size<=nh/\nh<wr1.heap.size):=Hd (⟨by omega,hbx.2.lt⟩);clear hbx hn hb;clear i1 i2 HRG;go_wp2_with (first|(refine wpList_load_bx _ rfl rfl HXb.o (by kernel_rfl) ?_)|(refine wpList_load_ro rfl 95 (hpc x).toArray _ rfl rfl HXh.o Tryz.underlying95 rfl rfl ?_))
  with_reducible refine(hofv v cs s B x _ ((HCS.o.below HB.o).below HBR.o) HL.o ((HR.o.below HB.o).below HBR.o) (HID.o x (List.mem_of_getElem? HXX.o)) HV.o).mono ?_
  rintro e wr2 ⟨ma,mc,rfl,hm,hb⟩;have HCr2:Hid (wr1.heap.size<=wr2.heap.size):=Hd (hb.size);replace HBR:=Hd (below_via HBR.o hb);replace HOW:=Hd (HOW.o.below hb);replace HXb:=Hd (HXb.o.below hb);replace HXh:=Hd (HXh.o.below hb);have HM:=Hd (Rw.of_ow hm);have hyes:allL cs B (L.take (k+1))=allL cs B (L.take k)++hapK cs B x.wh x.id x.pl B.ob:=allL_take HXX.o;have HYES:=Hd hyes;have HLT:Hid ((hapK cs B x.wh x.id x.pl B.ob).length<=1000):=Hd (by have h:=hapK_len cs B x.wh x.id x.pl B.ob;have:=HOB.o;omega);clear hyes hb hm;go_wp2_with (at_builtin;refine wpList_append_ow (f:=itc) (sz:=5) rfl _ _ 30 rfl w1.heap.size 73 (.agg #[.int .i64 0,.int .i64 0,.int .i64 0,.int .i64 0,.slice none 0 0]) 56 Tryz.underlying30 infoX rfl (by decide) _ ((allL cs B (L.take k)).map nilI) rfl HOW.o itc_ok _ ((hapK cs B x.wh x.id x.pl B.ob).map nilI) rfl HM.o ?c2 ?c3 ?c4 ?_)
  case c2=>simp[maxLen];have:=HAL.o;have:=HLT.o;omega
  case c3=>simp;have:=HAL.o;have:=HLT.o;omega
  case c4=>exact HBR.o.size
  intro v8 w8 ho8 hg8 hv8
  obtain⟨va,vc,rfl⟩:=ho8.form
  have hb8:Below w1.heap.size w1 w8:=HBR.o.grown hg8 HBR.o.size (fun q hq=>(HOW.o.typ q hq).1);rw[<-List.map_append,<-HYES.o,List.length_map] at ho8
  rw[show((allL cs B (L.take k)).map nilI++(hapK cs B x.wh x.id x.pl B.ob).map nilI).length=(allL cs B (L.take (k+1))).length by rw[<-List.map_append,<-HYES.o,List.length_map]];have HO8:=Hd ho8;have HB8:=Hd hb8;clear ho8 hg8 hv8 hb8;go_wp2_with fail
  go_roundw
  case rel=>exact⟨k+1,va,vc,by omega,by go_num,rfl,HB8.o,HO8.o⟩
  case measure=>simp[intOf];omega
 case neg=>
 obtain rfl:k=L.length:=by omega
 rw[List.take_length] at HOW HAL ⊢
 replace HB:=Hd (below_via HB.o hb);replace HXb:=Hd (HXb.o.below hb);replace HXz:=Hd (HXz.o.below hb);have HCQ:Hid (w1.heap.size<=wr.heap.size):=Hd hb.size;clear hb HBR;go_wp2_with (first|(refine wpList_load_bx _ rfl rfl HXb.o (by kernel_rfl) ?_))
 with_reducible refine(bcopy s B _ (HR.o.below HB.o) HV.o.sm HV.o.tl).mono ?_
 rintro e wt1 ⟨sc,rfl,ho,hb⟩;have HCt1:Hid (wr.heap.size<=wt1.heap.size):=Hd (hb.size);replace HB:=Hd (below_via HB.o hb);replace HXb:=Hd (HXb.o.below hb);replace HXz:=Hd (HXz.o.below hb);replace HOW:=Hd (HOW.o.below hb);have HOc:=Hd ho;clear ho hb;go_wp2_with (first|(refine wpList_store_bh rfl _ _ rfl rfl rfl (heap_alloc_new _ _) rfl ?_))
 intro wt2 hw0;have hbx:=boxed hw0.out
 obtain⟨nc,hn⟩:∃n,n=wt1.heap.size:=⟨_,rfl⟩
 rw[<-hn] at hbx ⊢
 have hb:=hbx.1;rw[hn] at hb
 clear hw0;replace HB:=Hd (below_via HB.o hb);replace HXb:=Hd (HXb.o.below hb);replace HXz:=Hd (HXz.o.below hb);replace HOc:=Hd (HOc.o.below hb);replace HOW:=Hd (HOW.o.below hb);have HXc:Hid (Bx wt2 nc sc (B)):=Hd hbx.2;have HCt2:Hid (wt1.heap.size<=nc/\nc<wt2.heap.size):=Hd (⟨by omega,hbx.2.lt⟩);clear hbx hn hb;rw[HAE.o] at HOW HAL ⊢
 obtain⟨l',hl',hox,hot⟩:=HOc.o.qu
 obtain⟨qa,qc,hqv⟩:=hox.1.form
 have hll2:l'.length=B.qu.length:=by rw[<-hl',List.length_map]
 have k30:wt2.cell? ⟨nc,30,none⟩=some (.slice qa B.qu.length qc):=by rw[<-hll2,<-hqv];exact HXc.o.cell 30
 have hnc:nc<wt2.heap.size:=HXc.o.lt;rw[hqv,hll2] at hox
 rw[hll2] at hqv
 have HLQ:=Hd hl';have HLL:=Hd hll2;have HOXQ:=Hd hox;have HOT:=Hd hot;have HQV:=Hd hqv;have HK30:=Hd k30;clear hl' hox hot hqv
 go_upto_region 10 with fail
 go_cut [15] (fun s0 wx=>s0= .int .i64 (rm:Nat)/\wx=wt2)
 case first=>
  by_cases a1:200<most
  ·have a1':200<most:=a1
   have hw:wrap64 (200-(B.qu.length:Int))=200-(B.qu.length:Int):=by have:=HMO.o;have:=HQU.o;unfold wrap64;omega
   by_cases a2:(0:Int)<200-(B.qu.length:Int)
   ·have a2':(0:Int)<200-(B.qu.length:Int):=a2
    by_cases a3:(200-(B.qu.length:Int))<(al.length:Int)
    ·have a3':(200-(B.qu.length:Int))<(al.length:Int):=a3
     go_wp2_with fail
     go_meet
     case rel=>exact⟨val_int (by rw[<-HRM.o];unfold room;omega),rfl⟩
    have a3':¬(200-(B.qu.length:Int))<(al.length:Int):=a3;go_wp2_with fail
    go_meet
    case rel=>exact⟨val_int (by rw[<-HRM.o];unfold room;omega),rfl⟩
   have a2':¬(0:Int)<200-(B.qu.length:Int):=a2
   by_cases a3:(0:Int)<(al.length:Int)
   ·have a3':(0:Int)<(al.length:Int):=a3
    go_wp2_with fail
    go_meet
    case rel=>exact⟨val_int (by rw[<-HRM.o];unfold room;omega),rfl⟩
   have a3':¬(0:Int)<(al.length:Int):=a3;go_wp2_with fail
   go_meet
   case rel=>exact⟨val_int (by rw[<-HRM.o];unfold room;omega),rfl⟩
  have a1':¬200<most:=a1;have hw:wrap64 (most-(B.qu.length:Int))=most-(B.qu.length:Int):=by have:=HMO.o;have:=HQU.o;unfold wrap64;omega
  by_cases a2:(0:Int)<most-(B.qu.length:Int)
  ·have a2':(0:Int)<most-(B.qu.length:Int):=a2
   by_cases a3:(most-(B.qu.length:Int))<(al.length:Int)
   ·have a3':(most-(B.qu.length:Int))<(al.length:Int):=a3
    go_wp2_with fail
    go_meet
    case rel=>exact⟨val_int (by rw[<-HRM.o];unfold room;omega),rfl⟩
   have a3':¬(most-(B.qu.length:Int))<(al.length:Int):=a3;go_wp2_with fail
   go_meet
   case rel=>exact⟨val_int (by rw[<-HRM.o];unfold room;omega),rfl⟩
  have a2':¬(0:Int)<most-(B.qu.length:Int):=a2
  by_cases a3:(0:Int)<(al.length:Int)
  ·have a3':(0:Int)<(al.length:Int):=a3
   go_wp2_with fail
   go_meet
   case rel=>exact⟨val_int (by rw[<-HRM.o];unfold room;omega),rfl⟩
  have a3':¬(0:Int)<(al.length:Int):=a3;go_wp2_with fail
  go_meet
  case rel=>exact⟨val_int (by rw[<-HRM.o];unfold room;omega),rfl⟩
 obtain⟨wx,rfl⟩:∃W,W=wc:=⟨_,rfl⟩
 obtain⟨rfl,rfl⟩:=hcut
 have hnc2:nc<wx.heap.size:=HXc.o.lt;have KH0:=Hd (⟨HB.o,HB.o.size,by simp⟩:Kept w.heap.size w w.heap.size [] wx);have c30:=HK30.o;have j1:(0:Int)<=(rm:Int):=by omega
 have j2:(rm:Int)<=(al.length:Int):=by have:=HRL.o;omega
 have j3:rm<=al.length:=HRL.o
 have HCP:Hid (al.length<=lc/\(la=none->lc=0)):=Hd (by
  obtain⟨_,h1⟩:=HOW.o
  rcases h1 with⟨h1,_⟩|⟨g',c',cur,h1,_,_,h2,_⟩
  ·simp only[Value.slice.injEq] at h1
   exact⟨by omega,fun _=>h1.2.2⟩
  simp only[Value.slice.injEq] at h1
  rw[List.length_map] at h2
  exact⟨by omega,fun e=>by rw[h1.1] at e;cases e⟩)
 have j4:al.length<=lc:=HCP.o.1;have j5:rm<=lc:=by omega
 have j6:(rm:Int)<=(lc:Int):=by omega
 have j7:(al.length:Int)<=(lc:Int):=by omega
 go_upto_region 11 with fail
 refine rg65_11 (w0:=w) (B:=w.heap.size) (n:=w.heap.size) (L:=[]) (E:=fun W=>W.cell? ⟨nc,30,none⟩=some (.slice qa B.qu.length qc)/\nc<W.heap.size) (F:=fun W=>Below wx.heap.size wx W) (by kernel_rfl) rfl (by kernel_rfl) ⟨(KH0.o.step (by omega) (by go_grown)),⟨HK30.o,hnc2⟩,fun _ _ h hb=>⟨(hb.cell (p:=⟨nc,30,none⟩) h.2).trans h.1,Nat.lt_of_lt_of_le h.2 hb.size⟩,(Below.refl _ _),fun _ _ h hb=>below_via h hb⟩ (fun w81 K_w81 E_w81 F_w81=> ?_);have _ne:Nonempty (KX (w.heap.size) w (w.heap.size) [] (fun W=>W.cell? ⟨nc,30,none⟩=some (.slice qa B.qu.length qc)/\nc<W.heap.size)):=⟨⟨_,K_w81,E_w81⟩⟩
 repeat (go_big_quiet_step (fail))
 refine wpQuiet_nil ?_;have ra:∀s:KX (w.heap.size) w (w.heap.size) [] (fun W=>W.cell? ⟨nc,30,none⟩=some (.slice qa B.qu.length qc)/\nc<W.heap.size),s.val.cell? ⟨nc,30,none⟩=some (.slice qa B.qu.length qc):=fun s=>s.ex.1
 repeat (go_big_quiet_step (fail))
 refine wpQuiet_nil ?_;have KH_w81:=Hd K_w81;have hw_w81:=K_w81.below;have hz_w81:=K_w81.size;clear K_w81;have HF1:=Hd (F_w81);clear E_w81 F_w81
 refine⟨fun K hK0=> ?_,trivial⟩
 have hK:=Hd hK0;clear hK0;have HCk:Hid (wx.heap.size<=w81.heap.size):=Hd HF1.o.size;replace HXc:=Hd (HXc.o.below HF1.o);replace HXz:=Hd (HXz.o.below HF1.o);replace HB:=Hd (below_via HB.o HF1.o);replace HOc:=Hd (HOc.o.below HF1.o);replace HOXQ:=Hd (HOXQ.o.below HF1.o);replace HOT:Hid (∀x∈l',TgO wr.heap.size wt1.heap.size w81 x.2.v x.1.tg):=Hd (fun x hx=>(HOT.o x hx).below HF1.o);have HT:=Hd ((Rw.of_ow (HOW.o.below HF1.o)).take j3 lc HCP.o.2);rw[<-List.map_take] at HT
 obtain⟨M,hM⟩:∃M,M=(al.take rm).map nilI:=⟨_,rfl⟩
 rw[<-hM] at HT
 have HMM:=Hd hM;have HML:Hid (M.length<=al.length):=Hd (by rw[hM,List.length_map,List.length_take];omega);clear HXb HOW HF1 hM;go_wp2_with (at_builtin;refine wpList_append_ow (f:=itc) (sz:=5) rfl _ _ 30 rfl (wr.heap.size) 73 (.agg #[.int .i64 0,.int .i64 0,.int .i64 0,.int .i64 0,.slice none 0 0]) 56 Tryz.underlying30 infoX rfl (by decide) _ l' rfl HOXQ.o.1 itc_ok _ M rfl HT.o ?c2 ?c3 ?c4 ?_)
 case c2=>have h1:=HML.o;have h2:=HLL.o;have h3:=HQU.o;have h4:=HAL.o;simp only[maxLen];omega
 case c3=>have h1:=HML.o;have h2:=HLL.o;have h3:=HQU.o;have h4:=HAL.o;omega
 case c4=>(have o0:=HC1.o;have o1:=HC2.o;have o2:=HCQ.o;have o3:=HCt1.o;have o4:=HCt2.o;have o5:=HCk.o;have x0:=HXz.o.lt;have x1:=HXc.o.lt;omega)
 intro v8 w8 ho8 hg8 hv8
 obtain⟨va,vc,rfl⟩:=ho8.form
 obtain⟨n1,hn1⟩:∃n1,n1=(l'++M).length:=⟨_,rfl⟩
 rw[<-hn1] at ho8 hv8 ⊢
 have hrow:∀q,(Value.slice qa B.qu.length qc).ownBlock=some q->wr.heap.size<=q/\q<wt1.heap.size:=fun q hq=>⟨(HOXQ.o.blk hq).1,(HOXQ.o.blk hq).2.1⟩
 have hxc:Bx w8 nc sc B:=HXc.o.grown hg8 (fun e=>by have h1:=hrow _ e;(have o0:=HC1.o;have o1:=HC2.o;have o2:=HCQ.o;have o3:=HCt1.o;have o4:=HCt2.o;have o5:=HCk.o;have x0:=HXz.o.lt;have x1:=HXc.o.lt;omega));have hxz:Bx w8 (w.heap.size+1) nilS zeroB:=HXz.o.grown hg8 (fun e=>by have h1:=hrow _ e;(have o0:=HC1.o;have o1:=HC2.o;have o2:=HCQ.o;have o3:=HCt1.o;have o4:=HCt2.o;have o5:=HCk.o;have x0:=HXz.o.lt;have x1:=HXc.o.lt;omega));have hb8:Below w.heap.size w w8:=HB.o.grown hg8 HB.o.size (fun q hq=>by have h1:=hrow _ hq;(have o0:=HC1.o;have o1:=HC2.o;have o2:=HCQ.o;have o3:=HCt1.o;have o4:=HCt2.o;have o5:=HCk.o;have x0:=HXz.o.lt;have x1:=HXc.o.lt;omega));have hmf:M.map Prod.fst=al.take rm:=by rw[HMM.o,List.map_map];exact List.map_id _
 have hall:∀x∈al,itQ x:=fun x hx=>allL_Q HV.o x (by rw[HAE.o];exact hx)
 have hq8:ItO (wr.heap.size) w8.heap.size w8 (.slice va n1 vc) (coB B al most).qu:=by
  have h1:=ItO.grew HLQ.o HOXQ.o HOT.o ho8 hg8 (fun y hy=>by
   rw[HMM.o] at hy
   obtain⟨y',hy',rfl⟩:=List.mem_map.1 hy
   exact⟨.inl rfl,(hall y' (List.mem_of_mem_take hy')).2.2.2.2⟩) (Nat.le_trans (by(have o0:=HC1.o;have o1:=HC2.o;have o2:=HCQ.o;have o3:=HCt1.o;have o4:=HCt2.o;have o5:=HCk.o;have x0:=HXz.o.lt;have x1:=HXc.o.lt;omega)) hg8.size)
  rw[hmf] at h1
  unfold coB;rw[HRM.o];exact h1
 have ho2:BdO (wr.heap.size) w8.heap.size w8 {sc with qu:=⟨va,n1,vc⟩} (coB B al most):=HOc.o.newQu (by(have o0:=HC1.o;have o1:=HC2.o;have o2:=HCQ.o;have o3:=HCt1.o;have o4:=HCt2.o;have o5:=HCk.o;have x0:=HXz.o.lt;have x1:=HXc.o.lt;omega)) ⟨va,n1,vc⟩ _ (by rw[HQV.o];exact hg8) hq8 (by
  rw[HQV.o];rcases hv8 with h1|h1
  ·exact .inl h1
  exact .inr ⟨_,h1,Nat.le_refl _⟩)
 replace HOc:=Hd ho2;replace HB:=Hd hb8;replace HXc:=Hd hxc;replace HXz:=Hd hxz;have HCz:Hid (w81.heap.size<=w8.heap.size):=Hd hg8.size;have d30:w8.cell? ⟨nc,30,none⟩=some (sc.qu.v):=hxc.cell 30;have f30:w8.frozen? ⟨nc,30,none⟩=false:=hxc.free 30;clear ho8 hg8 hv8 hrow hxc hxz hb8 hq8 ho2 HOT hn1 hmf hall HOXQ HT c30;go_wp2_with fail
 first|refine⟨rfl,hK.o _ _ ?_⟩|refine hK.o _ _ ?_
 clear hK K
 repeat (go_big_quiet_step (fail))
 refine wpQuiet_nil ?_
 refine⟨fun K hK0=> ?_,trivial⟩
 have hK:=Hd hK0;clear hK0;go_wp2_with fail
 first|refine⟨rfl,hK.o _ _ ?_⟩|refine hK.o _ _ ?_
 clear hK K;clear ra;clear _ne
 obtain⟨w9,hw⟩:∃X,X=w8.setCell ⟨nc,30,none⟩ (.slice va n1 vc):=⟨_,rfl⟩
 rw[<-hw];have hon:Onl [nc] w8 w9:=by rw[hw];exact Onl.setCell (Onl.refl _ _) (.inl (by simp)) _
 have hx:Bx w9 nc {sc with qu:=⟨va,n1,vc⟩} (coB B al most):=by rw[hw];exact HXc.o.put 30 _ rfl
 clear hw d30 f30;have hlo:w.heap.size<=nc:=by(have o0:=HC1.o;have o1:=HC2.o;have o2:=HCQ.o;have o3:=HCt1.o;have o4:=HCt2.o;have o5:=HCk.o;have o6:=HCz.o;have x0:=HXz.o.lt;have x1:=HXc.o.lt;omega)
 have hls:w.heap.size<=w8.heap.size:=HB.o.size;replace HB:=Hd (belowOnl HB.o hon (by simp only[List.mem_singleton,forall_eq];exact hlo) hls);replace HXz:=Hd (HXz.o.onl hon (by simp only[List.mem_singleton];(have o0:=HC1.o;have o1:=HC2.o;have o2:=HCQ.o;have o3:=HCt1.o;have o4:=HCt2.o;have o5:=HCk.o;have o6:=HCz.o;have x0:=HXz.o.lt;have x1:=HXc.o.lt;omega)));replace HOc:=Hd (HOc.o.onlB hon HXc.o);have HCt3:Hid (w8.heap.size<=w9.heap.size):=Hd (hon.size);clear hlo hls;replace HXc:=Hd hx;clear hx hon;have hws:wrap64 ((al.length:Int)-(rm:Int))=(al.length:Int)-(rm:Int):=by have h1:=HRL.o;have h2:=HAL.o;unfold wrap64;omega
 go_wp2_with (first|(refine wpList_load_bx _ rfl rfl HXc.o (by kernel_rfl) ?_)|(refine wpList_store_bh (s:={sc with qu:=⟨va,n1,vc⟩}) (B:=(coB B al most)) rfl _ _ rfl rfl rfl HXz.o rfl ?_;intro wt3 hw9))
 have hg9:Bx wt3 (w.heap.size+1) {sc with qu:=⟨va,n1,vc⟩} ((coB B al most)):=by rw[hw9.out];exact Bx.row HXz.o _ _
 have ho9:Onl [w.heap.size+1] w9 wt3:=by rw[hw9.out];exact Onl.setRow (Onl.refl _ _) (.inl (by simp)) _
 have hlo:w.heap.size<=w.heap.size+1:=by(have o0:=HC1.o;have o1:=HC2.o;have o2:=HCQ.o;have o3:=HCt1.o;have o4:=HCt2.o;have o5:=HCk.o;have o6:=HCz.o;have o7:=HCt3.o;have x0:=HXz.o.lt;have x1:=HXc.o.lt;omega)
 have hb9:Below w.heap.size w wt3:=belowOnl HB.o ho9 (by simp only[List.mem_singleton,forall_eq];exact hlo) HB.o.size;have HG9:=Hd hg9;have HPOST:Hid (BrP w ((coB B al most)) ((.int .i64 ((al.length:Int)-(rm:Nat)))) (.int .i64 0) (.returned (.tuple #[bv {sc with qu:=⟨va,n1,vc⟩} ((coB B al most)),(.int .i64 ((al.length:Int)-(rm:Nat))),.int .i64 0])) wt3):=Hd ⟨_,rfl,(HOc.o.onlB ho9 HXz.o).mono (by(have o0:=HC1.o;have o1:=HC2.o;have o2:=HCQ.o;have o3:=HCt1.o;have o4:=HCt2.o;have o5:=HCk.o;have o6:=HCz.o;have o7:=HCt3.o;have x0:=HXz.o.lt;have x1:=HXc.o.lt;omega)) (by have h9:=ho9.size;(have o0:=HC1.o;have o1:=HC2.o;have o2:=HCQ.o;have o3:=HCt1.o;have o4:=HCt2.o;have o5:=HCk.o;have o6:=HCz.o;have o7:=HCt3.o;have x0:=HXz.o.lt;have x1:=HXc.o.lt;omega)),hb9⟩;clear hw9 hg9 ho9 hb9 hlo;go_wp2_with fail
 exact bodyPost_ret (v:= .tuple #[bv {sc with qu:=⟨va,n1,vc⟩} ((coB B al most)),(.int .i64 ((al.length:Int)-(rm:Nat))),.int .i64 0]) (results_b2 Tryz.results65 _ _ HG9.o rfl rfl rfl) rfl HPOST.o
end Go.Proofs.YtpbepnpnpopmfaaGreat
