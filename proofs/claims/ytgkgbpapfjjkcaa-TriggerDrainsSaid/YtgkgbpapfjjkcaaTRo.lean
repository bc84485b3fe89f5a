/- The order of the queue, by the reference. -/
import Derived.Test.YtgkgbpapfjjkcaaTOr
import Derived.Test.YtgkgbpapfjjkcaaTWo
import Derived.Deep.DeepCutAuto
import Derived.LoopTactic
import Derived.Deep.MidRow
namespace Go.Proofs.Ytgkgbpapfjjkcaa
open Go.RowKit Plain
set_option linter.unusedVariables false
set_option linter.unusedSimpArgs false

theorem rg21_8{P:Program}{B n:Nat}{w0:World}{L:List (Nat×Nat×Value)}{E F:World→Prop}{id:Nat}{Q:Exit→Act→World→Prop}{a:Act}{w:World}{A:Array Oper}{o0 o1 o2 o3 o4 o5 o6 o7 o8 o9 o10 o11:Oper}(hm:P.follows .mixedOrders=true)(hA:A=[o0,o1,o2,o3,o4,o5,o6,o7,o8,o9,o10,o11].toArray)(hB:regOk A [1,5,7] [0,2,3,4,6,8,9,10,11] (.fs [0,2,6,9,10] (.rs [1] (.fs [3,4] (.rs [5,7] (.fs [8,11] .done)))))=true)(c:RC B w0 n L E F w)
  (h:∀wk,Kept B w0 n L wk→E wk→F wk→wpQuiet P A (fun _=>True) (fun a0=>wpQuiet P A (fun w' =>∃s:KX B w0 n L E,w' =s.val) (fun a1=>wpQuiet P A (fun _=>True) (fun a2=>wpQuiet P A (fun w' =>∃s:KX B w0 n L E,w' =s.val) (fun a3=>wpQuiet P A (fun _=>True) (fun a4=>Q .normal a4 wk) [o8,o11] a3) [o5,o7] a2) [o3,o4] a1) [o1] a0) [o0,o2,o6,o9,o10] a):(Code.region id A true).wp P Q a w:=by
 subst hA;exact wp_reg _ _ _ hm hB c (fun wk k e f=>have g:=h wk k e f;Scr.of_fs _ _ rfl g fun _ g=>Scr.of_rs _ _ rfl g fun _ g=>Scr.of_fs _ _ rfl g fun _ g=>Scr.of_rs _ _ rfl g fun _ g=>Scr.of_fs _ _ rfl g fun _ g=>g)
/-- of items, those of a turn: first the active player's, then the others -/
def rsel(ac:Int)(p:Nat)(l:List (It×Sl)):List (It×Sl):=l.filter (fun y=>(y.1.pl==ac)==decide (p=0))
def rpart(ac:Int)(p:Nat)(l:List (It×Sl)):List (It×Sl):=if p=0 then [] else if p=1 then rsel ac 0 l else rsel ac 0 l++rsel ac 1 l
theorem rpart_next(ac:Int){p:Nat}(hp:p<2)(l:List (It×Sl)):rpart ac (p+1) l=rpart ac p l++rsel ac p l:=by
 have:p=0∨p=1:=by omega
 rcases this with rfl|rfl<;>simp[rpart]
theorem rsel_len(ac:Int)(p:Nat)(l:List (It×Sl)):(rsel ac p l).length≤l.length:=List.length_filter_le _ _
theorem rpart_len(ac:Int)(p:Nat)(l:List (It×Sl)):(rpart ac p l).length≤2*l.length:=by
 have h0:=rsel_len ac 0 l;have h1:=rsel_len ac 1 l;unfold rpart
 split
 ·simp
 split
 ·omega
 ·rw[List.length_append];omega
theorem rsel_take{ac:Int}{p k:Nat}{l:List (It×Sl)}{x:It×Sl}(hx:l[k]? =some x):rsel ac p (l.take (k+1))=rsel ac p (l.take k)++if (x.1.pl==ac)==decide (p=0) then [x] else []:=by
 unfold rsel;rw[List.take_add_one,hx,List.filter_append]
 congr 1
 cases h:((x.1.pl==ac)==decide (p=0))<;>simp[h]
theorem rpart_all(B:Bd){l:List (It×Sl)}(h:l.map Prod.fst=B.qu):(rpart B.ac 2 l).map Prod.fst=ordL B:=by
 unfold rpart rsel ordL;rw[if_neg (by omega),if_neg (by omega),List.map_append];rw[←h,←map_filter (p:=fun x=>x.pl==B.ac),←map_filter (p:=fun x=> !(x.pl==B.ac))]
 simp
theorem rpart_mem{ac:Int}{p:Nat}{l:List (It×Sl)}{x:It×Sl}(h:x∈rpart ac p l):x∈l:=by
 unfold rpart rsel at h
 split at h
 ·simp at h
 split at h
 ·exact(List.mem_filter.1 h).1
 ·rcases List.mem_append.1 h with h|h<;>exact(List.mem_filter.1 h).1
def RoL(W:World)(ac:Int)(l:List (It×Sl))(lv tv:Value)(wr:World):Prop:=∃(p:Nat) (a:Option Addr) (c:Nat),p≤2∧tv= .int .i64 p∧lv= .slice a (rpart ac p l).length c∧Below W.heap.size W wr∧Ow itc 5 60 wr W.heap.size (.slice a (rpart ac p l).length c) (rpart ac p l)
def RoI(W:World)(ac:Int)(p:Nat)(l:List (It×Sl))(lv iv:Value)(wr:World):Prop:=∃(k:Nat) (a:Option Addr) (c:Nat),k≤l.length∧iv= .int .i64 k∧lv= .slice a (rpart ac p l++rsel ac p (l.take k)).length c∧Below W.heap.size W wr∧Ow itc 5 60 wr W.heap.size (.slice a (rpart ac p l++rsel ac p (l.take k)).length c) (rpart ac p l++rsel ac p (l.take k))
/-- a row of items of our own is returned -/
def OrO(w:World)(l:List It)(e:Ending)(w':World):Prop:=∃a c,e= .returned (.slice a l.length c)∧(∃l':List (It×Sl),l'.map Prod.fst=l∧Ow itc 5 60 w' w.heap.size (.slice a l.length c) l'∧∀x∈l',Rw tc 2 w' x.2.v x.1.tg)∧Below w.heap.size w w'
set_option maxRecDepth 100000 in
set_option maxHeartbeats 4000000 in
theorem rorderO(s:Bs)(B:Bd)(w:World)(h:BdR w s B)(hq:B.qu.length≤1000):Calls Try.prog 21 #[bv s B] w (OrO w (ordL B)):=by
 have HR:=Lib.hid h
 obtain⟨l',hl',hlr,hlt⟩:=h.qu
 obtain⟨hmx,qa,qc,hqv,hqf⟩:=hlr.form
 have HLE:=Lib.hid hl';have HLT:=Lib.hid hlt;have HQV:=Lib.hid hqv;have HQF:=Lib.hid hqf;have hln:l'.length≤1000:=by have h1:=congrArg List.length hl';rw[List.length_map] at h1;omega
 have HLN:=Lib.hid hln;clear h hl' hlr hlt hqv hqf hq;go_enter Try.func21,Try.ntmps21
 go_upto_region 1 with fail
 change Code.wp Try.prog _ _ _ (w.alloc (.cells (bcells s B) 34))
 obtain⟨wz,hwz⟩:∃W,W=(w.alloc (.cells (bcells s B) 34)):=⟨_,rfl⟩
 rw[←hwz];have b0:Below w.heap.size w wz:=by rw[hwz];exact(Below.refl _ _).alloc (Nat.le_refl _) _
 have HB:Hid (Below w.heap.size w wz):=Lib.hid b0;have HXb:Hid (Bx wz (w.heap.size) s B):=Lib.hid (by rw[hwz];exact(Ro.new w (bcells s B) 34));have HC1:Hid (w.heap.size+1≤wz.heap.size):=Lib.hid (by rw[hwz];simp);clear hwz b0;go_wp2_with fail
 go_loopw [3,4] (fun lv tv wr=>RoL wz B.ac l' lv tv wr) (fun _ t _=>2-(intOf t).toNat)
 case atStart=>exact⟨0,none,0,by omega,rfl,rfl,Below.refl _ _,Ow.nil _ _ _⟩
 case round=>
  obtain⟨p,pa,pc,hp,rfl,rfl,hb,ho⟩:=hrel
  have HBR:=Lib.hid hb;have HOW:=Lib.hid ho;clear hb ho
  have:p=0∨p=1∨p=2:=by omega
  rcases this with rfl|rfl|rfl
  ·rw[show((0:Nat):Int)=0 from rfl]
   go_wp2_with fail
   go_loopw [3,5] (fun lv iv wr=>RoI wz B.ac 0 l' lv iv wr) (fun _ i _=>l'.length-(intOf i).toNat)
   case atStart=>exact⟨0,pa,pc,by omega,rfl,by simp[rsel],HBR.out,by simpa [rsel] using HOW.out⟩
   case round=>
    obtain⟨k,ia,ic',hk,rfl,rfl,hb,ho⟩:=hrel
    replace HBR:=Lib.hid hb;replace HOW:=Lib.hid ho;have HRL:Hid ((rpart B.ac 0 l'++rsel B.ac 0 (l'.take k)).length≤4000):=Lib.hid (by have h1:=rpart_len B.ac 0 l';have h2:=rsel_len B.ac 0 (l'.take k);rw[List.length_take] at h2;have:=HLN.out;rw[List.length_append];omega);have hx:=HXb.out.below hb;have hl0:w.heap.size<wr.heap.size:=hx.lt;have c30:wr.cell? ⟨w.heap.size,30,none⟩=some (.slice qa l'.length qc):=by rw[←HQV.out];exact hx.cell 30
    have hmm:l'.length≤9223372036854775807:=by have:=HLN.out;omega
    obtain⟨M,hM⟩:∃M,M=rpart B.ac 0 l'++rsel B.ac 0 (l'.take k):=⟨_,rfl⟩
    rw[←hM] at HOW HRL ⊢
    have HMM:=Lib.hid hM;clear ho hM
    by_cases hkl:k<l'.length
    case neg=>
     obtain rfl:k=l'.length:=by omega
     have t1:decide ((l'.length:Int)<(l'.length:Int))=false:=decide_eq_false (by omega);have t1':decide (l'.length<l'.length)=false:=decide_eq_false (by omega);have hme:M=rpart B.ac (0+1) l':=by rw[HMM.out,List.take_length,←rpart_next B.ac (by omega)]
     subst hme;clear hx hb HMM;go_wp2_with fail
     go_roundw
     case rel=>exact⟨0+1,ia,ic',by omega,rfl,rfl,HBR.out,HOW.out⟩
     case measure=>simp[intOf]
    case pos=>
    have t1:decide ((k:Int)<(l'.length:Int))=true:=decide_eq_true (by omega);have t1':decide (k<l'.length)=true:=decide_eq_true hkl
    obtain⟨x,hxk⟩:∃x,l'[k]? =some x:=⟨_,List.getElem?_eq_getElem hkl⟩
    obtain⟨b,off,rfl,hlb,hc⟩:=HQF.out (by omega)
    have hbw:=below_via HB.out hb;have hrg:wr.rangeAt b (off+k*5) (itc x):=fun j u hu=>by rw[Nat.add_assoc];exact(hbw.cell (p:=⟨b,_,none⟩) hlb).trans (hc k x hxk j u hu)
    have d0:wr.cell? ⟨b,off+k*5,none⟩=some (.int .i64 x.1.pl):=hrg 0 _ rfl;have c34:wr.cell? ⟨w.heap.size,34,none⟩=some (.int .i64 B.ac):=hx.cell 34;have HRG:=Lib.hid hrg;have HXX:=Lib.hid hxk;replace hlb:b<wr.heap.size:=Nat.lt_of_lt_of_le hlb hbw.size;have i1:(0:Int)≤(k:Int):=by omega
    have i2:(k:Int)<(l'.length:Int):=by omega
    obtain⟨r,hr⟩:∃r,(x.1.pl==B.ac)=r:=⟨_,rfl⟩
    have HRR:=Lib.hid hr;have HXW:=Lib.hid hx;clear hc hrg hxk hbw hb hx
    go_upto_region 8 with fail
    refine rg21_8 (w0:=wr) (B:=wr.heap.size) (n:=wr.heap.size) (L:=[]) (by kernel_rfl) rfl (by kernel_rfl) (.t ⟨by go_grown,by go_size,(by simp[go_sem]<;>omega)⟩) (fun w91 K_w91 E_w91 F_w91=> ?_);have _ne:Nonempty (KX (wr.heap.size) wr (wr.heap.size) [] (fun _=>True)):=⟨⟨_,K_w91,E_w91⟩⟩
    repeat (go_big_quiet_step (fail))
    refine wpQuiet_nil ?_;have ra:=rck _ne c30 hl0;have rb:=rck _ne d0 hlb;have rc:=rck _ne c34 hl0
    repeat (go_big_quiet_step (fail))
    refine wpQuiet_nil ?_
    repeat (go_big_quiet_step (fail))
    refine wpQuiet_nil ?_
    repeat (go_big_quiet_step (fail))
    refine wpQuiet_nil ?_
    repeat (go_big_quiet_step (fail))
    refine wpQuiet_nil ?_;clear ra rb rc;clear _ne;have KH_w91:=Lib.hid K_w91;have hw_w91:=K_w91.below;have hz_w91:=K_w91.size;clear K_w91;clear E_w91 F_w91;replace HBR:=Lib.hid (below_via HBR.out KH_w91.out.below);replace HOW:=Lib.hid (HOW.out.below KH_w91.out.below);replace HRG:Hid (w91.rangeAt b (off+k*5) (itc x)):=Lib.hid (fun j u hu=>(KH_w91.out.below.cell (p:=⟨b,_,none⟩) hlb).trans (HRG.out j u hu));replace HXW:=Lib.hid (HXW.out.below KH_w91.out.below);clear c30 c34 d0;have c30:w91.cell? ⟨w.heap.size,30,none⟩=some (.slice (some ⟨b,off,none⟩) l'.length qc):=by rw[←HQV.out];exact HXW.out.cell 30
    clear hl0 hlb
    cases r
    ·clear hr
     have hno:rsel B.ac 0 (l'.take (k+1))=rsel B.ac 0 (l'.take k):=by rw[rsel_take HXX.out,HRR.out];simp
     have HNO:=Lib.hid hno;clear hno;go_wp2_with fail
     go_roundw
     case rel=>exact⟨k+1,ia,ic',by omega,by go_num,by rw[HNO.out,←HMM.out],HBR.out,by rw[HNO.out,←HMM.out];exact HOW.out⟩
     case measure=>simp[intOf];omega
    ·clear hr
     have hyes:rsel B.ac 0 (l'.take (k+1))=rsel B.ac 0 (l'.take k)++[x]:=by rw[rsel_take HXX.out,HRR.out];simp
     have HYES:=Lib.hid hyes;clear hyes
     obtain⟨y,⟨ta,tn,tc'⟩⟩:=x
     have d0:w91.cell? ⟨b,off+k*5,none⟩=some (.int .i64 y.pl):=HRG.out 0 _ rfl;have d1:w91.cell? ⟨b,off+k*5+1,none⟩=some (.int .i64 y.id):=HRG.out 1 _ rfl;have d2:w91.cell? ⟨b,off+k*5+2,none⟩=some (.int .i64 y.cd):=HRG.out 2 _ rfl;have d3:w91.cell? ⟨b,off+k*5+3,none⟩=some (.int .i64 y.tr):=HRG.out 3 _ rfl;have d4:w91.cell? ⟨b,off+k*5+4,none⟩=some (.slice ta tn tc'):=HRG.out 4 _ rfl;go_wp2_with (first|(at_builtin;refine wpList_append_ow (f:=itc) (sz:=5) rfl _ _ 30 rfl wz.heap.size 60 (.agg #[.int .i64 0,.int .i64 0,.int .i64 0,.int .i64 0,.slice none 0 0]) 56 Try.underlying30 infoX rfl (by decide) _ M rfl (HOW.out.below ((Below.refl _ _).alloc (Nat.le_refl _) _)) itc_ok _ [(y,⟨ta,tn,tc'⟩)] rfl (Rw.one2 (f:=itc) (sz:=5) _ 60 (y,⟨ta,tn,tc'⟩) #[.int .i64 y.pl,.int .i64 y.id,.int .i64 y.cd,.int .i64 y.tr,.slice ta tn tc'] rfl 1 _ rfl) ?c2 ?c3 ?c4 ?_))
     case c2=>have:=HRL.out;simp only[maxLen];first|omega|(simp;omega)
     case c3=>have:=HRL.out;first|omega|(simp;omega)
     case c4=>have:=HBR.out.size;simp;omega
     intro v8 w8 ho8 hg8 hv8
     obtain⟨va,vc,rfl⟩:=ho8.form
     have hb8:Below wz.heap.size wz w8:=(HBR.out.alloc HBR.out.size _).grown hg8 (by have:=HBR.out.size;simp;omega) (fun q hq=>(HOW.out.typ q hq).1);have he8:M++[(y,(⟨ta,tn,tc'⟩:Sl))]=rpart B.ac 0 l'++rsel B.ac 0 (l'.take (k+1)):=by rw[HYES.out,HMM.out,List.append_assoc]
     obtain⟨M2,hM2⟩:∃M2,M2=M++[(y,(⟨ta,tn,tc'⟩:Sl))]:=⟨_,rfl⟩
     rw[←hM2] at ho8 he8 ⊢
     have HE8:=Lib.hid he8;have HO8:=Lib.hid ho8;have HB8:=Lib.hid hb8;clear ho8 hg8 hv8 hb8 he8 hM2;go_wp2_with fail
     go_roundw
     case rel=>exact⟨k+1,va,vc,by omega,by go_num,by rw[←HE8.out],HB8.out,by rw[←HE8.out];exact HO8.out⟩
     case measure=>simp[intOf];omega
  ·rw[show((1:Nat):Int)=1 from rfl]
   go_wp2_with fail
   go_loopw [3,5] (fun lv iv wr=>RoI wz B.ac 1 l' lv iv wr) (fun _ i _=>l'.length-(intOf i).toNat)
   case atStart=>exact⟨0,pa,pc,by omega,rfl,by simp[rsel],HBR.out,by simpa [rsel] using HOW.out⟩
   case round=>
    obtain⟨k,ia,ic',hk,rfl,rfl,hb,ho⟩:=hrel
    replace HBR:=Lib.hid hb;replace HOW:=Lib.hid ho;have HRL:Hid ((rpart B.ac 1 l'++rsel B.ac 1 (l'.take k)).length≤4000):=Lib.hid (by have h1:=rpart_len B.ac 1 l';have h2:=rsel_len B.ac 1 (l'.take k);rw[List.length_take] at h2;have:=HLN.out;rw[List.length_append];omega);have hx:=HXb.out.below hb;have hl0:w.heap.size<wr.heap.size:=hx.lt;have c30:wr.cell? ⟨w.heap.size,30,none⟩=some (.slice qa l'.length qc):=by rw[←HQV.out];exact hx.cell 30
    have hmm:l'.length≤9223372036854775807:=by have:=HLN.out;omega
    obtain⟨M,hM⟩:∃M,M=rpart B.ac 1 l'++rsel B.ac 1 (l'.take k):=⟨_,rfl⟩
    rw[←hM] at HOW HRL ⊢
    have HMM:=Lib.hid hM;clear ho hM
    by_cases hkl:k<l'.length
    case neg=>
     obtain rfl:k=l'.length:=by omega
     have t1:decide ((l'.length:Int)<(l'.length:Int))=false:=decide_eq_false (by omega);have t1':decide (l'.length<l'.length)=false:=decide_eq_false (by omega);have hme:M=rpart B.ac (1+1) l':=by rw[HMM.out,List.take_length,←rpart_next B.ac (by omega)]
     subst hme;clear hx hb HMM;go_wp2_with fail
     go_roundw
     case rel=>exact⟨1+1,ia,ic',by omega,rfl,rfl,HBR.out,HOW.out⟩
     case measure=>simp[intOf]
    case pos=>
    have t1:decide ((k:Int)<(l'.length:Int))=true:=decide_eq_true (by omega);have t1':decide (k<l'.length)=true:=decide_eq_true hkl
    obtain⟨x,hxk⟩:∃x,l'[k]? =some x:=⟨_,List.getElem?_eq_getElem hkl⟩
    obtain⟨b,off,rfl,hlb,hc⟩:=HQF.out (by omega)
    have hbw:=below_via HB.out hb;have hrg:wr.rangeAt b (off+k*5) (itc x):=fun j u hu=>by rw[Nat.add_assoc];exact(hbw.cell (p:=⟨b,_,none⟩) hlb).trans (hc k x hxk j u hu)
    have d0:wr.cell? ⟨b,off+k*5,none⟩=some (.int .i64 x.1.pl):=hrg 0 _ rfl;have c34:wr.cell? ⟨w.heap.size,34,none⟩=some (.int .i64 B.ac):=hx.cell 34;have HRG:=Lib.hid hrg;have HXX:=Lib.hid hxk;replace hlb:b<wr.heap.size:=Nat.lt_of_lt_of_le hlb hbw.size;have i1:(0:Int)≤(k:Int):=by omega
    have i2:(k:Int)<(l'.length:Int):=by omega
    obtain⟨r,hr⟩:∃r,(x.1.pl==B.ac)=r:=⟨_,rfl⟩
    have HRR:=Lib.hid hr;have HXW:=Lib.hid hx;clear hc hrg hxk hbw hb hx
    go_upto_region 8 with fail
    refine rg21_8 (w0:=wr) (B:=wr.heap.size) (n:=wr.heap.size) (L:=[]) (by kernel_rfl) rfl (by kernel_rfl) (.t ⟨by go_grown,by go_size,(by simp[go_sem]<;>omega)⟩) (fun w91 K_w91 E_w91 F_w91=> ?_);have _ne:Nonempty (KX (wr.heap.size) wr (wr.heap.size) [] (fun _=>True)):=⟨⟨_,K_w91,E_w91⟩⟩
    repeat (go_big_quiet_step (fail))
    refine wpQuiet_nil ?_;have ra:=rck _ne c30 hl0;have rb:=rck _ne d0 hlb;have rc:=rck _ne c34 hl0
    repeat (go_big_quiet_step (fail))
    refine wpQuiet_nil ?_
    repeat (go_big_quiet_step (fail))
    refine wpQuiet_nil ?_
    repeat (go_big_quiet_step (fail))
    refine wpQuiet_nil ?_
    repeat (go_big_quiet_step (fail))
    refine wpQuiet_nil ?_;clear ra rb rc;clear _ne;have KH_w91:=Lib.hid K_w91;have hw_w91:=K_w91.below;have hz_w91:=K_w91.size;clear K_w91;clear E_w91 F_w91;replace HBR:=Lib.hid (below_via HBR.out KH_w91.out.below);replace HOW:=Lib.hid (HOW.out.below KH_w91.out.below);replace HRG:Hid (w91.rangeAt b (off+k*5) (itc x)):=Lib.hid (fun j u hu=>(KH_w91.out.below.cell (p:=⟨b,_,none⟩) hlb).trans (HRG.out j u hu));replace HXW:=Lib.hid (HXW.out.below KH_w91.out.below);clear c30 c34 d0;have c30:w91.cell? ⟨w.heap.size,30,none⟩=some (.slice (some ⟨b,off,none⟩) l'.length qc):=by rw[←HQV.out];exact HXW.out.cell 30
    clear hl0 hlb
    cases r
    ·clear hr
     have hyes:rsel B.ac 1 (l'.take (k+1))=rsel B.ac 1 (l'.take k)++[x]:=by rw[rsel_take HXX.out,HRR.out];simp
     have HYES:=Lib.hid hyes;clear hyes
     obtain⟨y,⟨ta,tn,tc'⟩⟩:=x
     have d0:w91.cell? ⟨b,off+k*5,none⟩=some (.int .i64 y.pl):=HRG.out 0 _ rfl;have d1:w91.cell? ⟨b,off+k*5+1,none⟩=some (.int .i64 y.id):=HRG.out 1 _ rfl;have d2:w91.cell? ⟨b,off+k*5+2,none⟩=some (.int .i64 y.cd):=HRG.out 2 _ rfl;have d3:w91.cell? ⟨b,off+k*5+3,none⟩=some (.int .i64 y.tr):=HRG.out 3 _ rfl;have d4:w91.cell? ⟨b,off+k*5+4,none⟩=some (.slice ta tn tc'):=HRG.out 4 _ rfl;go_wp2_with (first|(at_builtin;refine wpList_append_ow (f:=itc) (sz:=5) rfl _ _ 30 rfl wz.heap.size 60 (.agg #[.int .i64 0,.int .i64 0,.int .i64 0,.int .i64 0,.slice none 0 0]) 56 Try.underlying30 infoX rfl (by decide) _ M rfl (HOW.out.below ((Below.refl _ _).alloc (Nat.le_refl _) _)) itc_ok _ [(y,⟨ta,tn,tc'⟩)] rfl (Rw.one2 (f:=itc) (sz:=5) _ 60 (y,⟨ta,tn,tc'⟩) #[.int .i64 y.pl,.int .i64 y.id,.int .i64 y.cd,.int .i64 y.tr,.slice ta tn tc'] rfl 1 _ rfl) ?c2 ?c3 ?c4 ?_))
     case c2=>have:=HRL.out;simp only[maxLen];first|omega|(simp;omega)
     case c3=>have:=HRL.out;first|omega|(simp;omega)
     case c4=>have:=HBR.out.size;simp;omega
     intro v8 w8 ho8 hg8 hv8
     obtain⟨va,vc,rfl⟩:=ho8.form
     have hb8:Below wz.heap.size wz w8:=(HBR.out.alloc HBR.out.size _).grown hg8 (by have:=HBR.out.size;simp;omega) (fun q hq=>(HOW.out.typ q hq).1);have he8:M++[(y,(⟨ta,tn,tc'⟩:Sl))]=rpart B.ac 1 l'++rsel B.ac 1 (l'.take (k+1)):=by rw[HYES.out,HMM.out,List.append_assoc]
     obtain⟨M2,hM2⟩:∃M2,M2=M++[(y,(⟨ta,tn,tc'⟩:Sl))]:=⟨_,rfl⟩
     rw[←hM2] at ho8 he8 ⊢
     have HE8:=Lib.hid he8;have HO8:=Lib.hid ho8;have HB8:=Lib.hid hb8;clear ho8 hg8 hv8 hb8 he8 hM2;go_wp2_with fail
     go_roundw
     case rel=>exact⟨k+1,va,vc,by omega,by go_num,by rw[←HE8.out],HB8.out,by rw[←HE8.out];exact HO8.out⟩
     case measure=>simp[intOf];omega
    ·clear hr
     have hno:rsel B.ac 1 (l'.take (k+1))=rsel B.ac 1 (l'.take k):=by rw[rsel_take HXX.out,HRR.out];simp
     have HNO:=Lib.hid hno;clear hno;go_wp2_with fail
     go_roundw
     case rel=>exact⟨k+1,ia,ic',by omega,by go_num,by rw[HNO.out,←HMM.out],HBR.out,by rw[HNO.out,←HMM.out];exact HOW.out⟩
     case measure=>simp[intOf];omega
  ·rw[show((2:Nat):Int)=2 from rfl]
   go_wp2_with fail
   go_returns;have hl9:(ordL B).length=(rpart B.ac 2 l').length:=by rw[←rpart_all B HLE.out,List.length_map]
   refine⟨pa,pc,by rw[hl9];rfl,⟨_,rpart_all B HLE.out,by rw[hl9];exact((Ox.of HOW.out).mono HB.out.size (Nat.le_refl _)).1,fun x hx=>((HLT.out x (rpart_mem hx)).below HB.out).below HBR.out⟩,below_via HB.out HBR.out⟩
theorem rorder(s:Bs)(B:Bd)(w:World)(h:BdR w s B)(hq:B.qu.length≤1000):Calls Try.prog 21 #[bv s B] w (OrA w (ordL B)):=(rorderO s B w h hq).mono (fun e w' h=>by
 obtain⟨a,c,he,⟨l',h1,h2,h3⟩,hb⟩:=h
 exact⟨a,c,he,⟨l',h1,h2.rw itc_len,h3⟩,hb⟩)
end Go.Proofs.Ytgkgbpapfjjkcaa
