/- Lists that contain a number; attackers and blocks, by the code. -/
import Derived.Test.YtpbepnpnpopmfaaGreatBOw
import Derived.Test.YtpbepnpnpopmfaaGreatBPg
import Derived.Deep.DeepCutAuto
import Derived.LoopTactic
import Derived.Maps.OwnOps
open Go.RowKit Go.Proofs.YtpbepnpnpopmfaaGreat
set_option maxRecDepth 100000
set_option maxHeartbeats 4000000
namespace Go.Proofs.YtpbepnpnpopmfaaGreat
open Plain
set_option linter.unusedVariables false
set_option linter.unusedSimpArgs false

def IxRel(w:World)(l:List Int)(z:Int)(i:Value)(wr:World):Prop:=∃k:Nat,k<=l.length/\i= .int .i64 k/\z∉l.take k/\Below w.heap.size w wr
theorem indexI(v:Value)(l:List Int)(z:Int)(w:World)(hs:Rw ic 1 w v l):Calls Tryz.prog 100 #[v,.int .i64 z] w fun e w' =>(∃r:Int,e= .returned (.int .i64 r)/\decide (r>=0)=decide (z∈l))/\Below w.heap.size w w':=by
 obtain⟨hm,a0,c0,rfl,hf⟩:=hs.form
 have HF:=Hd hf;clear hs hf;go_enter Tryz.func100,Tryz.ntmps100;go_wp2_with fail
 go_loopw [8] (fun i wr=>IxRel w l z i wr) (fun i _=>l.length-(intOf i).toNat)
 case atStart=>exact⟨0,Nat.zero_le _,rfl,by simp,Below.refl _ _⟩
 obtain⟨k,hk,rfl,hn,hb⟩:=hrel
 have HN:=Hd hn;have HBW:=Hd hb;clear hn
 by_cases hlt2:k<l.length
 ·obtain⟨b,off,rfl,hlt,hc⟩:=HF.o (by omega)
  obtain⟨x,hx⟩:∃x,l[k]? =some x:=⟨_,List.getElem?_eq_getElem hlt2⟩
  have d0:wr.cell? ⟨b,off+k,none⟩=some (.int .i64 x):=(hb.cell (p:=⟨b,off+k,none⟩) hlt).trans (by have:=hc k x hx 0 _ rfl;simpa using this);have i1:(0:Int)<=(k:Int):=by omega
  have i2:(k:Int)<(l.length:Int):=by omega
  have HX:=Hd hx;clear hc hx hb
  by_cases he:z=x
  ·have t1:(z==x)=true:=by simp[he]
   have HM:Hid (z∈l):=Hd (by rw[he];exact List.mem_of_getElem? HX.o);clear he;go_wp2_with fail
   go_returns
   exact⟨⟨k,rfl,by rw[decide_eq_true (by omega),decide_eq_true HM.o]⟩,HBW.o⟩
  have t1:(z==x)=false:=beq_false_of_ne he
  have HN2:Hid (z∉l.take (k+1)):=Hd (by
   rw[List.take_add_one,HX.o]
   simp
   exact⟨HN.o,he⟩)
  clear he;go_wp2_with fail
  go_roundw
  case rel=>exact⟨k+1,by omega,by go_num,HN2.o,HBW.o⟩
  case measure=>simp[intOf];omega
 obtain rfl:k=l.length:=by omega
 clear hb;go_wp2_with fail
 go_returns
 exact⟨⟨-1,rfl,by have:=HN.o;rw[List.take_length] at this;rw[decide_eq_false (by omega),decide_eq_false this]⟩,HBW.o⟩
theorem containsI(v:Value)(l:List Int)(z:Int)(r:Bool)(w:World)(hs:Rw ic 1 w v l)(hr:decide (z∈l)=r):Calls Tryz.prog 86 #[v,.int .i64 z] w fun e w' =>e= .returned (.bool r)/\Below w.heap.size w w':=by
 have HI:=Hd (indexI v l z w hs);rw[hr] at HI
 clear hs hr;go_enter Tryz.func86,Tryz.ntmps86;go_wp2_with fail
 with_reducible refine HI.o.mono ?_
 rintro e w2 ⟨⟨z,rfl,hz⟩,hb2⟩;have HZ:=Hd hz;have HB2:=Hd hb2;clear hz hb2;go_wp2_with fail
 go_returns
 exact⟨by rw[<-HZ.o];rfl,HB2.o⟩
structure FSt(w:World)(s:Bs)(B:Bd)(bm:Nat)(n:Nat)(S:List Int)(wr:World):Prop where
 below:Below w.heap.size w wr
 box:Bx wr w.heap.size s B
 mp:MapS wr bm n S
 lt:w.heap.size<bm
theorem FSt.call{w:World}{s:Bs}{B:Bd}{bm n:Nat}{S:List Int}{wr w':World}(h:FSt w s B bm n S wr)(hb:Below wr.heap.size wr w'):FSt w s B bm n S w':=
 ⟨below_via h.below hb,h.box.below hb,h.mp.below hb,h.lt⟩
theorem FSt.put{w:World}{s:Bs}{B:Bd}{bm n n':Nat}{S S':List Int}{wr w':World}(h:FSt w s B bm n S wr)(hm:MapS w' bm n' S')(ho:Onl [bm] wr w'):FSt w s B bm n' S' w':=
 ⟨⟨ho.os.trans h.below.os,ho.tape.trans h.below.tape,ho.output.trans h.below.output,Nat.le_trans h.below.size ho.size,fun i hi=>(ho.block i (Nat.lt_of_lt_of_le hi h.below.size) (fun hm=>by simp at hm;have:=h.lt;omega)).trans (h.below.block i hi)⟩,
  (ho.block _ h.box.lt (by have:=h.lt;simp;omega)).trans h.box,hm,h.lt⟩
def FgL(w:World)(s:Bs)(B:Bd)(bm:Nat)(v:Value)(wr:World):Prop:=∃i:Nat,i<=B.att.length/\v= .int .i64 i/\FSt w s B bm i (B.att.take i).reverse wr/\FgA B i
def FgM(w:World)(s:Bs)(B:Bd)(bm:Nat)(v:Value)(wr:World):Prop:=∃(i:Nat) (S:List Int),i<=B.bl.length/\v= .int .i64 i/\FSt w s B bm (B.att.length+2*i) S wr/\FgS B i S
theorem I_wrap(z:Int):I (wrap64 z):=by unfold I wrap64;omega
theorem rg59_1{P:Program}{B n:Nat}{w0:World}{L:List (Nat×Nat×Value)}{E F:World->Prop}{id:Nat}{Q:Exit->Act->World->Prop}{a:Act}{w:World}{A:Array Oper}{o0 o1 o2 o3 o4 o5 o6 o7 o8 o9 o10 o11 o12 o13 o14:Oper}(hm:P.follows .mixedOrders=true)(hA:A=[o0,o1,o2,o3,o4,o5,o6,o7,o8,o9,o10,o11,o12,o13,o14].toArray)(hB:regOk A [1,5,7,12] [0,2,3,4,6,8,9,10,11,13,14] (.fs [0,2,6,9] (.rs [1] (.fs [3,4] (.rs [5] (.fs [13] (.rs [7] (.fs [8,10,11] (.rs [12] (.fs [14] .done)))))))))=true)(c:RC B w0 n L E F w)
  (h:∀wk,Kept B w0 n L wk->E wk->F wk->wpQuiet P A (fun _=>True) (fun a0=>wpQuiet P A (fun w' =>∃s:KX B w0 n L E,w' =s.val) (fun a1=>wpQuiet P A (fun _=>True) (fun a2=>wpQuiet P A (fun w' =>∃s:KX B w0 n L E,w' =s.val) (fun a3=>wpQuiet P A (fun _=>True) (fun a4=>wpQuiet P A (fun w' =>∃s:KX B w0 n L E,w' =s.val) (fun a5=>wpQuiet P A (fun _=>True) (fun a6=>wpQuiet P A (fun w' =>∃s:KX B w0 n L E,w' =s.val) (fun a7=>wpQuiet P A (fun _=>True) (fun a8=>Q .normal a8 wk) [o14] a7) [o12] a6) [o8,o10,o11] a5) [o7] a4) [o13] a3) [o5] a2) [o3,o4] a1) [o1] a0) [o0,o2,o6,o9] a):(Code.region id A true).wp P Q a w:=by
 subst hA;exact wp_reg _ _ _ hm hB c (fun wk k e f=>have g:=h wk k e f;Scr.of_fs _ _ rfl g fun _ g=>Scr.of_rs _ _ rfl g fun _ g=>Scr.of_fs _ _ rfl g fun _ g=>Scr.of_rs _ _ rfl g fun _ g=>Scr.of_fs _ _ rfl g fun _ g=>Scr.of_rs _ _ rfl g fun _ g=>Scr.of_fs _ _ rfl g fun _ g=>Scr.of_rs _ _ rfl g fun _ g=>Scr.of_fs _ _ rfl g fun _ g=>g)
theorem rg59_15{P:Program}{B n:Nat}{w0:World}{L:List (Nat×Nat×Value)}{E F:World->Prop}{id:Nat}{Q:Exit->Act->World->Prop}{a:Act}{w:World}{A:Array Oper}{o0 o1 o2 o3 o4 o5 o6 o7 o8:Oper}(hm:P.follows .mixedOrders=true)(hA:A=[o0,o1,o2,o3,o4,o5,o6,o7,o8].toArray)(hB:regOk A [2,5] [0,1,3,4,6] (.fs [0,1,3,4] (.rs [2,5] (.fs [6] (.alt 7 (.altc 8 .done .stop) .stop))))=true)(c:RC B w0 n L E F w)
  (h:∀wk,Kept B w0 n L wk->E wk->F wk->wpQuiet P A (fun _=>True) (fun a0=>wpQuiet P A (fun w' =>∃s:KX B w0 n L E,w' =s.val) (fun a1=>wpQuiet P A (fun _=>True) (fun a2=>((∀K3:Act->World->Prop,(∀a3 w3,((∀K4:Act->World->Prop,(∀a4 w4,Q .normal a4 w4->K4 a4 w4)->wpList P A (fun e a4 w4=>e= .normal/\K4 a4 w4) [o8] a3 w3)/\True)->K3 a3 w3)->wpList P A (fun e a3 w3=>e= .normal/\(∃s:KX B w0 n L E,w3=s.val)/\K3 a3 w3) [o7] a2 wk)/\True)) [o6] a1) [o2,o5] a0) [o0,o1,o3,o4] a):(Code.region id A true).wp P Q a w:=by
 subst hA;exact wp_reg _ _ _ hm hB c (fun wk k e f=>have g:=h wk k e f;Scr.of_fs _ _ rfl g fun _ g=>Scr.of_rs _ _ rfl g fun _ g=>Scr.of_fs _ _ rfl g fun _ g=>(Scr.of_alt rfl (g.1 _ fun _ _ g=>g) (fun _ _ g=>(Scr.of_altc rfl (g.1 _ fun _ _ g=>g) (fun _ _ g=>g) trivial)) trivial))
theorem fights(s:Bs)(B:Bd)(w:World)(h:BdR w s B)(hi:B.I)(hsm:B.Sm)(hac:0<=B.ac/\B.ac<=1)(hpos:∀p,∀z∈(B.seat p).fld,1<=z):Calls Tryz.prog 59 #[bv s B] w fun e w' =>(∃r,e= .returned (.bool r)/\(r=true↔Fgt B))/\Below w.heap.size w w':=by
 have HR:=Hd h;have HI:=Hd hi;have HSM:=Hd hsm
 obtain⟨p,hp⟩:∃p:Nat,B.ac=(p:Nat):=⟨B.ac.toNat,by omega⟩
 have hp2:p<2:=by omega
 have hown:B.own=(B.seat p).fld:=by unfold Bd.own;rw[hp];rfl
 have hoth:B.oth=(B.seat (1-p)).fld:=by unfold Bd.oth;rw[hp,show(1-(p:Int)).toNat=1-p by omega]
 have HPO:Hid (∀z∈B.own,1<=z):=Hd (fun z hz=>hpos p z (by rw[<-hown];exact hz));have HPT:Hid (∀z∈B.oth,1<=z):=Hd (fun z hz=>hpos (1-p) z (by rw[<-hoth];exact hz));clear h hi hsm hac hpos;have hmm:= @run_makeMap Tryz.prog;have hw1:wrap64 (1-(p:Int))=((1-p:Nat):Int):=by unfold wrap64;omega
 have p1:(0:Int)<=(p:Int):=by omega
 have p2:(p:Int)<2:=by omega
 have p3:(0:Int)<=((1-p:Nat):Int):=by omega
 have p4:((1-p:Nat):Int)<2:=by omega
 go_enter Tryz.func59,Tryz.ntmps59
 go_upto_region 1 with fail
 obtain⟨wz,hwz⟩:∃W,W=w.alloc (.cells (bcells s B) 34):=⟨_,rfl⟩
 change Code.wp Tryz.prog _ _ _ (w.alloc (.cells (bcells s B) 34));rw[<-hwz];have HX:Hid (Bx wz w.heap.size s B):=Hd (by rw[hwz];exact heap_alloc_new _ _);have hlz:w.heap.size<wz.heap.size:=by rw[hwz];simp
 have HBZ:Hid (Below w.heap.size w wz):=Hd (by rw[hwz];exact(Below.refl _ _).alloc (Nat.le_refl _) _);clear hwz;have e34:wz.cell? ⟨w.heap.size,34,none⟩=some (.int .i64 (p:Nat)):=by rw[HX.o.cell 34,<-hp];rfl
 have ezo:=HX.o.zone (p:=p) (z:=2) hp2 (by omega);have ezt:=HX.o.zone (p:=1-p) (z:=2) (by omega) (by omega);have HRO:=Hd (HR.o.zone p 2);have HRT:=Hd (HR.o.zone (1-p) 2)
 obtain⟨⟨ao,no,co⟩,hzo⟩:∃q,s.zl p 2=q:=⟨_,rfl⟩
 obtain⟨⟨at',nt,ct⟩,hzt⟩:∃q,s.zl (1-p) 2=q:=⟨_,rfl⟩
 rw[hzo] at HRO ezo
 rw[hzt] at HRT ezt
 change Hid (Rw ic 1 _ (.slice ao no co) ((B.seat p).fld)) at HRO
 change Hid (Rw ic 1 _ (.slice at' nt ct) ((B.seat (1-p)).fld)) at HRT
 rw[<-hown] at HRO
 rw[<-hoth] at HRT
 change wz.cell? ⟨w.heap.size,1+p*14+7,none⟩=some (.slice ao no co) at ezo
 change wz.cell? ⟨w.heap.size,1+(1-p)*14+7,none⟩=some (.slice at' nt ct) at ezt
 clear hzo hzt hown hoth hp;refine rg59_1 (w0:=wz) (B:=wz.heap.size) (n:=wz.heap.size) (L:=[]) (by kernel_rfl) rfl (by kernel_rfl) (.t ⟨by go_grown,by go_size,(by simp[go_sem]<;>omega)⟩) (fun w1 K_w1 E_w1 F_w1=> ?_);have _ne:Nonempty (KX (wz.heap.size) wz (wz.heap.size) [] (fun _=>True)):=⟨⟨_,K_w1,E_w1⟩⟩
 repeat (go_big_quiet_step (fail))
 refine wpQuiet_nil ?_;have ra:=rck _ne e34 hlz;have ro:=rck _ne ezo hlz;have rt:=rck _ne ezt hlz
 repeat (go_big_quiet_step (fail))
 refine wpQuiet_nil ?_
 repeat (go_big_quiet_step (fail))
 refine wpQuiet_nil ?_
 repeat (go_big_quiet_step (fail))
 refine wpQuiet_nil ?_
 repeat (go_big_quiet_step (fail))
 refine wpQuiet_nil ?_
 repeat (go_big_quiet_step (fail))
 refine wpQuiet_nil ?_
 repeat (go_big_quiet_step (fail))
 refine wpQuiet_nil ?_
 repeat (go_big_quiet_step (fail))
 refine wpQuiet_nil ?_
 repeat (go_big_quiet_step (fail))
 refine wpQuiet_nil ?_;clear ra ro rt;clear _ne;have KH_w1:=Hd K_w1;have hw_w1:=K_w1.below;have hz_w1:=K_w1.size;clear K_w1;clear E_w1 F_w1;have HXW:Hid (Bx w1 w.heap.size s B):=Hd (HX.o.below hw_w1);have HBW:Hid (Below w.heap.size w w1):=Hd (below_via HBZ.o hw_w1);clear hw_w1 hz_w1 e34 ezo ezt hlz HX HBZ KH_w1

 clear p1 p2 p3 p4 hw1 hp2
 go_upto_region 3 with fail
 obtain⟨W3,hW3⟩:∃W,W=w1.alloc (.map #[] 0):=⟨_,rfl⟩
 rw[<-hW3]
 have HS0:Hid (FSt w s B w1.heap.size 0 [] W3):=Hd (by
  rw[hW3];have b1:Below w1.heap.size w1 (w1.alloc (.map #[] 0)):=(Below.refl _ _).alloc (Nat.le_refl _) _
  exact⟨below_via HBW.o b1,HXW.o.below b1,MapS.made w1,HXW.o.lt⟩)
 obtain⟨bm,hbm⟩:∃n,n=w1.heap.size:=⟨_,rfl⟩
 rw[<-hbm] at HS0 ⊢
 clear HXW HBW hW3 hbm w1 wz
 obtain⟨hml,aa,ca,hv,hf⟩:=HR.o.att.form
 simp only[Sl.v,Value.slice.injEq] at hv
 have c31:W3.cell? ⟨w.heap.size,31,none⟩=some (.slice aa B.att.length ca):=by
  rw[HS0.o.box.cell 31]
  show some (Value.slice s.at'.a s.at'.n s.at'.c)=_
  rw[hv.1,hv.2.1,hv.2.2]
 have HF:=Hd hf;have HV:=Hd hv;clear hf hv;go_wp2_with fail
 clear c31
 go_loopw [27] (fun i wr=>FgL w s B bm i wr) (fun i _=>B.att.length-(intOf i).toNat)
 case atStart=>exact⟨0,by omega,rfl,by simpa using HS0.o,by simp,by simp⟩
 obtain⟨i,hi,rfl,hst,hfa⟩:=hrel
 have HST:=Hd hst;have HFA:=Hd hfa;clear hst hfa HS0
 by_cases hil:i<B.att.length
 ·have k1:(0:Int)<=(i:Int):=by omega
  have k2:(i:Int)<(B.att.length:Int):=by omega
  obtain⟨b0,off,rfl,hlt,hc⟩:=HF.o (by omega)
  obtain⟨x,hx⟩:∃x,B.att[i]? =some x:=⟨_,List.getElem?_eq_getElem hil⟩
  have d0:wr.cell? ⟨b0,off+i,none⟩=some (.int .i64 x):=(HST.o.below.cell (p:=⟨b0,off+i,none⟩) hlt).trans (by have:=hc i x hx 0 _ rfl;simpa using this);have HXX:=Hd hx;have HXI:=Hd (HI.o.att x (List.mem_of_getElem? hx));have HIL:Hid (i<100000):=Hd (by have:=HSM.o.att;omega)
  obtain⟨r1,hr1⟩:∃r,decide (x∈(B.att.take i).reverse)=r:=⟨_,rfl⟩
  obtain⟨r2,hr2⟩:∃r,decide (x∈B.own)=r:=⟨_,rfl⟩
  have hlk:=HST.o.mp.look HXI.o hr1;have HR1:=Hd hr1;have HR2:=Hd hr2;clear hc hx hr1 hr2
  cases r1
  ·go_wp2_with fail
   with_reducible refine(containsI _ B.own x r2 _ (HRO.o.below HST.o.below) HR2.o).mono ?_
   rintro e w4 ⟨rfl,hb4⟩;replace HST:=Hd (HST.o.call hb4);clear hb4 d0 hlk
   cases r2
   ·have HNP:Hid (¬Fgt B):=Hd (fgA_fail HXX.o (.inr (of_decide_eq_false HR2.o)))
    go_wp2_with fail
    go_returns
    exact⟨⟨false,rfl,⟨fun h=>(by cases h),fun h=>absurd h HNP.o⟩⟩,HST.o.below⟩
   have HFB:Hid (FgA B (i+1)):=Hd (HFA.o.step HXX.o (by have:=of_decide_eq_false HR1.o;rw[List.mem_reverse] at this;exact this) (of_decide_eq_true HR2.o));have HTS:Hid ((B.att.take (i+1)).reverse=x::(B.att.take i).reverse):=Hd (by rw[take_snoc HXX.o];simp);go_wp2_with (at_mapUpdate;refine wpList_putS rfl _ _ _ rfl rfl HST.o.mp HIL.o x true rfl rfl HXI.o ?_;intro w9 hm9 ho9)
   replace HST:=Hd (HST.o.put hm9 ho9);clear hm9 ho9;rw[if_pos rfl,<-HTS.o] at HST
   go_wp2_with fail
   go_roundw
   case rel=>exact⟨i+1,by omega,by go_num,HST.o,HFB.o⟩
   case measure=>simp[intOf];omega
  have HNP:Hid (¬Fgt B):=Hd (fgA_fail HXX.o (.inl (by have:=of_decide_eq_true HR1.o;rw[List.mem_reverse] at this;exact this)));go_wp2_with fail
  go_returns
  exact⟨⟨false,rfl,⟨fun h=>(by cases h),fun h=>absurd h HNP.o⟩⟩,HST.o.below⟩
 have hie:i=B.att.length:=by omega
 rw[hie] at HFA
 rw[hie,List.take_length] at HST
 clear hie hi;have HPA:Hid (∀a∈B.att,1<=a):=Hd (fun a ha=>HPO.o a (HFA.o.own a (by rw[List.take_length];exact ha)))
 have HA2:Hid (∀W,Bx W w.heap.size s B->W.cell? ⟨w.heap.size,31,none⟩=some (.slice aa B.att.length ca)):=Hd (fun W h=>by
  rw[h.cell 31]
  show some (Value.slice s.at'.a s.at'.n s.at'.c)=_
  rw[HV.o.1,HV.o.2.1,HV.o.2.2])
 have HRA:Hid (Rw ic 1 w (.slice aa B.att.length ca) B.att):=Hd (by
  have:=HR.o.att
  unfold Sl.v at this
  rw[HV.o.1,HV.o.2.1,HV.o.2.2] at this
  exact this)
 clear HF HV hml
 obtain⟨hml,ab,cb,hv,hf⟩:=HR.o.bl.form
 simp only[Sl.v,Value.slice.injEq] at hv
 have c32:wr.cell? ⟨w.heap.size,32,none⟩=some (.slice ab B.bl.length cb):=by
  rw[HST.o.box.cell 32]
  show some (Value.slice s.bl.a s.bl.n s.bl.c)=_
  rw[hv.1,hv.2.1,hv.2.2]
 have HF:=Hd hf;clear hf hv;go_wp2_with fail
 clear c32
 go_loopw [46] (fun i wr=>FgM w s B bm i wr) (fun i _=>B.bl.length-(intOf i).toNat)
 case atStart=>exact⟨0,_,by omega,rfl,by simpa using HST.o,FgS.start B⟩
 obtain⟨i,S,hi,rfl,hst,hfs⟩:=hrel
 replace HST:=Hd hst;have HFS:=Hd hfs;clear hst hfs
 by_cases hil:i<B.bl.length
 ·have k1:(0:Int)<=(i:Int):=by omega
  have k2:(i:Int)<(B.bl.length:Int):=by omega
  obtain⟨b0,off,rfl,hlt,hc⟩:=HF.o (by omega)
  obtain⟨x,hx⟩:∃x,B.bl[i]? =some x:=⟨_,List.getElem?_eq_getElem hil⟩
  have d0:wr.cell? ⟨b0,off+i*2,none⟩=some (.int .i64 x.bl):=(HST.o.below.cell (p:=⟨b0,off+i*2,none⟩) hlt).trans (hc i x hx 0 _ rfl);have d1:wr.cell? ⟨b0,off+i*2+1,none⟩=some (.int .i64 x.at'):=(HST.o.below.cell (p:=⟨b0,off+i*2+1,none⟩) hlt).trans (hc i x hx 1 _ rfl);have HXX:=Hd hx;have HIX:=Hd (HI.o.bl x (List.mem_of_getElem? hx));have HN1:Hid (B.att.length+2*i<100000):=Hd (by have:=HSM.o.att;have:=HSM.o.bl;omega);have HN2:Hid (B.att.length+2*i+1<100000):=Hd (by have:=HSM.o.att;have:=HSM.o.bl;omega);clear hc hx
  go_upto_region 13 with fail
  obtain⟨wq,hwq⟩:∃W,W=wr.alloc (.cells #[.int .i64 x.bl,.int .i64 x.at'] 89):=⟨_,rfl⟩
  rw[<-hwq];have hqb:Below wr.heap.size wr wq:=by rw[hwq];exact(Below.refl _ _).alloc (Nat.le_refl _) _
  have hqs:wq.heap.size=wr.heap.size+1:=by rw[hwq];simp
  have hqc:∀j,wq.cell? ⟨wr.heap.size,j,none⟩=(#[.int .i64 x.bl,.int .i64 x.at']:Array Value)[j]? :=fun j=>by rw[hwq];exact cell_of_row _ _ j _ 89 (0,0) (heap_alloc_new _ _)
  have hqf:∀j,wq.frozen? ⟨wr.heap.size,j,none⟩=false:=fun j=>by rw[hwq];exact World.frozen?_alloc_new _ _ _ _
  clear hwq d0 d1 hlt;have HLT:Hid (bm<wr.heap.size):=Hd HST.o.mp.lt;replace HST:=Hd (HST.o.call hqb)
  obtain⟨n0,hn0⟩:∃n,n=wr.heap.size:=⟨_,rfl⟩
  rw[<-hn0] at hqs hqc hqf HLT ⊢
  have HK0:Hid (Kept w.heap.size w (n0+1) [(n0,0,.int .i64 x.bl),(n0,1,.int .i64 x.at')] wq):=Hd ⟨HST.o.below,by omega,by
   intro y hy;simp only[List.mem_cons,List.not_mem_nil,or_false] at hy
   rcases hy with rfl|rfl
   all_goals exact⟨by show n0<n0+1;omega,hqc _,hqf _⟩⟩
  have q0:wq.cell? ⟨n0,0,none⟩=some (.int .i64 x.bl):=hqc 0;have q1:wq.cell? ⟨n0,1,none⟩=some (.int .i64 x.at'):=hqc 1;have hnw:n0<wq.heap.size:=by omega
  have hw0:w.heap.size<=n0:=by have:=HST.o.lt;have:=HLT.o;omega
  clear hqb hqs hqc hqf hn0
  obtain⟨r1,hr1⟩:∃r,decide (x.at'∈S)=r:=⟨_,rfl⟩
  obtain⟨r2,hr2⟩:∃r,decide (wrap64 (-x.bl)∈S)=r:=⟨_,rfl⟩
  obtain⟨r3,hr3⟩:∃r,decide (x.at'∈B.att)=r:=⟨_,rfl⟩
  obtain⟨r4,hr4⟩:∃r,decide (x.bl∈B.oth)=r:=⟨_,rfl⟩
  have hl1:=HST.o.mp.look HIX.o.1 hr1;have hl2:=HST.o.mp.look (I_wrap (-x.bl)) hr2;have c31:=HA2.o _ HST.o.box;have HR1:=Hd hr1;have HR2:=Hd hr2;have HR3:=Hd hr3;have HR4:=Hd hr4;have HNB:Hid (x.bl∈B.oth->wrap64 (-x.bl)= -x.bl):=Hd (fun h=>by have h1:=HPT.o _ h;have h2:=HIX.o.2;unfold I at h2;unfold wrap64;omega);clear hr1 hr2 hr3 hr4
  cases r1
  ·have HNP:Hid (¬Fgt B):=Hd (HFS.o.fail HPA.o HPT.o HXX.o HNB.o (.inl (of_decide_eq_false HR1.o)))
   go_wp2_with fail
   go_returns
   exact⟨⟨false,rfl,⟨fun h=>(by cases h),fun h=>absurd h HNP.o⟩⟩,HST.o.below⟩
  cases r2
  rotate_left
  ·have HNP:Hid (¬Fgt B):=Hd (HFS.o.fail HPA.o HPT.o HXX.o HNB.o (.inr (.inl (of_decide_eq_true HR2.o))))
   go_wp2_with fail
   go_returns
   exact⟨⟨false,rfl,⟨fun h=>(by cases h),fun h=>absurd h HNP.o⟩⟩,HST.o.below⟩
  go_wp2_with fail
  with_reducible refine(containsI _ B.att x.at' r3 _ (HRA.o.below HST.o.below) HR3.o).mono ?_
  rintro e w4 ⟨rfl,hb4⟩;replace HST:=Hd (HST.o.call hb4);replace q0:=(hb4.cell (p:=⟨n0,0,none⟩) hnw).trans q0;replace HK0:=Hd (HK0.o.step (by omega) hb4);replace hnw:=Nat.lt_of_lt_of_le hnw hb4.size;clear hb4 q1 hl1 hl2 c31
  cases r3
  ·have HNP:Hid (¬Fgt B):=Hd (HFS.o.fail HPA.o HPT.o HXX.o HNB.o (.inr (.inr (.inl (of_decide_eq_false HR3.o)))))
   go_wp2_with fail
   go_returns
   exact⟨⟨false,rfl,⟨fun h=>(by cases h),fun h=>absurd h HNP.o⟩⟩,HST.o.below⟩
  go_wp2_with fail
  with_reducible refine(containsI _ B.oth x.bl r4 _ (HRT.o.below HST.o.below) HR4.o).mono ?_
  rintro e w5 ⟨rfl,hb4⟩;replace HST:=Hd (HST.o.call hb4);replace HK0:=Hd (HK0.o.step (by omega) hb4);clear hb4 q0 hnw
  cases r4
  ·have HNP:Hid (¬Fgt B):=Hd (HFS.o.fail HPA.o HPT.o HXX.o HNB.o (.inr (.inr (.inr (of_decide_eq_false HR4.o)))))
   go_wp2_with fail
   go_returns
   exact⟨⟨false,rfl,⟨fun h=>(by cases h),fun h=>absurd h HNP.o⟩⟩,HST.o.below⟩
  have HSS:=Hd (HFS.o.step HPA.o HPT.o HXX.o HNB.o (of_decide_eq_true HR1.o) (of_decide_eq_false HR2.o) (of_decide_eq_true HR3.o) (of_decide_eq_true HR4.o))
  go_upto_region 15 with fail
  refine rg59_15 (w0:=w) (B:=w.heap.size) (n:=n0+1) (L:=[(n0,0,.int .i64 x.bl),(n0,1,.int .i64 x.at')]) (E:=fun _=>True) (F:=fun W=>FSt w s B bm (B.att.length+2*i) S W) (by kernel_rfl) rfl (by kernel_rfl) ⟨(HK0.o.step (by omega) (by go_grown)),trivial,fun _ _ _ _=>trivial,HST.o,fun _ _ h hb=>h.call hb⟩ (fun w41 K_w41 E_w41 F_w41=> ?_);have _ne:Nonempty (KX (w.heap.size) w (n0+1) [(n0,0,.int .i64 x.bl),(n0,1,.int .i64 x.at')] (fun _=>True)):=⟨⟨_,K_w41,E_w41⟩⟩
  repeat (go_big_quiet_step (fail))
  refine wpQuiet_nil ?_;have rN0:∀s:KX (w.heap.size) w (n0+1) [(n0,0,.int .i64 x.bl),(n0,1,.int .i64 x.at')] (fun _=>True),s.val.cell? ⟨n0,0,none⟩=some (.int .i64 x.bl):=fun s=>s.kept.at (by simp)
  have rN1:∀s:KX (w.heap.size) w (n0+1) [(n0,0,.int .i64 x.bl),(n0,1,.int .i64 x.at')] (fun _=>True),s.val.cell? ⟨n0,1,none⟩=some (.int .i64 x.at'):=fun s=>s.kept.at (by simp)
  repeat (go_big_quiet_step (fail))
  refine wpQuiet_nil ?_
  repeat (go_big_quiet_step (fail))
  refine wpQuiet_nil ?_;have KH_w41:=Hd K_w41;have hw_w41:=K_w41.below;have hz_w41:=K_w41.size;have lN_w41:n0<w41.heap.size:=by omega
  clear K_w41;have HST:=Hd (F_w41);clear E_w41 F_w41
  refine⟨fun K hK0=> ?_,trivial⟩
  have hK:=Hd hK0;clear hK0;go_wp2_with (at_mapUpdate;refine wpList_putS rfl _ _ _ rfl rfl HST.o.mp HN1.o x.at' false rfl rfl HIX.o.1 ?_;intro w7 hm7 ho7)
  have HST7:=Hd (HST.o.put hm7 ho7);have KH7:Hid (Kept w.heap.size w (n0+1) [(n0,0,.int .i64 x.bl),(n0,1,.int .i64 x.at')] w7):=Hd (Kept.onl (S:=[bm]) KH_w41.o ho7 (by omega) (by have:=HST.o.lt;simp;omega) (by have:=HLT.o;simp;omega));clear hm7 ho7;go_wp2_with fail
  first|refine⟨rfl,?u,hK.o _ _ ?_⟩|refine⟨?u,hK.o _ _ ?_⟩
  case u=>exact⟨⟨_,KH7.o,trivial⟩,rfl⟩
  clear hK K
  refine⟨fun K hK0=> ?_,trivial⟩
  have hK:=Hd hK0;clear hK0;go_wp2_with (at_mapUpdate;refine wpList_putS rfl _ _ _ rfl rfl HST7.o.mp HN2.o (wrap64 (-x.bl)) true rfl rfl (I_wrap _) ?_;intro w8 hm8 ho8)
  have HST8:=Hd (HST7.o.put hm8 ho8);clear hm8 ho8;go_wp2_with fail
  first|refine⟨rfl,hK.o _ _ ?_⟩|refine hK.o _ _ ?_
  clear hK K;clear rN0 rN1;clear _ne;go_wp2_with fail
  go_roundw
  case rel=>exact⟨i+1,_,by omega,by go_num,HST8.o,HSS.o⟩
  case measure=>simp[intOf];omega
 have hie:i=B.bl.length:=by omega
 rw[hie] at HFS
 have HYF:Hid (Fgt B):=Hd (HFS.o.done HFA.o);clear hie;go_wp2_with fail
 go_returns
 exact⟨⟨true,rfl,⟨fun _=>HYF.o,fun _=>rfl⟩⟩,HST.o.below⟩
end Go.Proofs.YtpbepnpnpopmfaaGreat
