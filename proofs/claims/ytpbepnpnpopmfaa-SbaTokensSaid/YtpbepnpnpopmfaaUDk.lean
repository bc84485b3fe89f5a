/- DeleteFunc of ids. DeleteFunc of ids and of blocks. -/
import Derived.Test.YtpbepnpnpopmfaaTDp
import Derived.Deep.DeepCutAuto
import Derived.LoopTactic
import Derived.Deep.MidRow
import Derived.Lib.SliceRun
namespace Go.Proofs.Ytpbepnpnpopmfaa
open Go.RowKit Plain
set_option linter.unusedVariables false
set_option linter.unusedSimpArgs false

set_option maxRecDepth 100000 in
set_option maxHeartbeats 4000000 in
theorem idxI(q:Nat)(hcf:∀args w,(callFunc q args).run Try.prog w= .ok (.enter q args) w)(cv:Value)(p:Int→Bool)(v:Value)(l:List Int)(w:World)(hs:Rw ic 1 w v l)(hq:∀W x,x∈l→Below w.heap.size w W→Calls Try.prog q #[.int .i64 x,cv] W fun e w' =>e= .returned (.bool (p x))∧Below W.heap.size W w'):Calls Try.prog 90 #[v,.func (.func q) #[] #[cv]] w (FiA p l w):=by
 obtain⟨hm,a0,c0,rfl,hf⟩:=hs.form
 have HF:=Lib.hid hf;have HQ:=Lib.hid hq;clear hs hf hq;go_enter Try.func90,Try.ntmps90;go_wp2_with fail
 go_loopw [8] (fun i wr=>FiL p l w i wr) (fun i _=>l.length-(intOf i).toNat)
 case atStart=>exact⟨0,Nat.zero_le _,rfl,fun j y h=>by omega,Below.refl _ _⟩
 case round=>
  obtain⟨k,hk,rfl,hn,hb⟩:=hrel
  have HN:=Lib.hid hn;clear hn
  by_cases hlt2:k<l.length
  ·obtain⟨b,off,rfl,hlt,hc⟩:=HF.out (by omega)
   obtain⟨x,hx⟩:∃x,l[k]? =some x:=⟨_,List.getElem?_eq_getElem hlt2⟩
   have HX:=Lib.hid hx;have d0:wr.cell? ⟨b,off+k,none⟩=some (.int .i64 x):=(hb.cell (p:=⟨b,off+k,none⟩) hlt).trans (by have h:=hc k x HX.out 0 _ rfl;simpa using h);have i1:(0:Int)≤(k:Int):=by omega
   have i2:(k:Int)<(l.length:Int):=by omega
   have HBW:=Lib.hid hb;have HC:=Lib.hid (HQ.out wr x (List.mem_of_getElem? hx) hb)
   obtain⟨r,hr⟩:∃r,p x=r:=⟨_,rfl⟩
   rw[hr] at HC
   have HP:=Lib.hid hr;clear hc hx hr hb hlt
   cases r
   ·go_wp2_with fail
    with_reducible refine HC.out.mono ?_
    rintro e w2 ⟨rfl,hb2⟩;have HB2:=Lib.hid (below_via HBW.out hb2);clear hb2;go_wp2_with fail
    go_roundw
    case rel=>exact⟨k+1,by omega,by go_num,fun j y hj hy=>by
     rcases Nat.lt_or_ge j k with h|h
     ·exact HN.out j y h hy
     ·obtain rfl:j=k:=by omega
      have:=HX.out
      rw[hy] at this
      rw[Option.some.inj this];exact HP.out,HB2.out⟩
    case measure=>simp[intOf];omega
   ·go_wp2_with fail
    with_reducible refine HC.out.mono ?_
    rintro e w2 ⟨rfl,hb2⟩;have HB2:=Lib.hid (below_via HBW.out hb2);clear hb2;go_wp2_with fail
    go_returns
    exact⟨⟨k,rfl,.inr ⟨k,x,rfl,HX.out,HP.out,HN.out⟩⟩,HB2.out⟩
  ·obtain rfl:k=l.length:=by omega
   have HBW:=Lib.hid hb;clear hb;go_wp2_with fail
   go_returns
   exact⟨⟨-1,rfl,.inl ⟨rfl,fun x hx=>by
    obtain⟨j,hj⟩:=List.getElem?_of_mem hx
    exact HN.out j x (List.getElem?_eq_some_iff.1 hj).1 hj⟩⟩,HBW.out⟩
theorem zvI(w:World):(zeroValue 3).run Try.prog w= .ok (.int .i64 0) w:=by kernel_rfl
set_option maxRecDepth 100000 in
set_option maxHeartbeats 4000000 in
theorem delI(q:Nat)(hcf:∀args w,(callFunc q args).run Try.prog w= .ok (.enter q args) w)(cv:Value)(p:Int→Bool)(a:Option Addr)(cap:Nat)(l:List Int)(lo hi:Nat)(w:World)(h:Ox ic 1 3 lo hi w (.slice a l.length cap) l)(hl:l.length≤1000)(hq:∀W x,x∈l→w.grownBy W (Value.slice a l.length cap).ownBlock→Calls Try.prog q #[.int .i64 x,cv] W fun e w' =>e= .returned (.bool (p x))∧Below W.heap.size W w'):
  Calls Try.prog 80 #[.slice a l.length cap,.func (.func q) #[] #[cv]] w fun e w' =>e= .returned (.slice a (l.filter (fun y=> !p y)).length cap)∧Ox ic 1 3 lo hi w' (.slice a (l.filter (fun y=> !p y)).length cap) (l.filter (fun y=> !p y))∧w.grownBy w' (Value.slice a l.length cap).ownBlock:=by
 have hlen:∀(l:List Int),∀x∈l,(ic x).length=1:=fun l x _=>(ic_ok x).1
 have HLEN:=Lib.hid hlen;have HI:=Lib.hid (idxI q hcf cv p (.slice a l.length cap) l w (h.rw (hlen l)) (fun W x hx hb=>hq W x hx (grown_below hb)));have HO:=Lib.hid h;have HQ:=Lib.hid hq;clear h hq hlen;go_enter Try.func80,Try.ntmps80;go_wp2_with fail
 with_reducible refine HI.out.mono ?_
 rintro e w1 ⟨⟨r,rfl,hr⟩,hb⟩;rcases hr with⟨rfl,hn⟩|⟨k0,x0,rfl,hx0,hp0,hn0⟩
 ·have HN:=Lib.hid (filter_none hn)
  have HB:=Lib.hid hb;clear hn hb;go_wp2_with fail
  go_returns;rw[HN.out]
  exact⟨rfl,HO.out.below HB.out,grown_below HB.out⟩
 have hk0:k0<l.length:=(List.getElem?_eq_some_iff.1 hx0).1;have t0:((k0:Int)== -1)=false:=by simp
 obtain⟨g,cap',hv,hg1,hg2,hg3⟩:=HO.out.pos (by omega)
 simp only[Value.slice.injEq] at hv
 obtain⟨rfl,hq0,rfl⟩:=hv
 have HST:Hid (DfL ic 1 3 lo hi p l g cap w (.int .i64 k0) (.int .i64 (k0+1:Nat)) w1):=Lib.hid ⟨k0,k0+1,l,by omega,by omega,rfl,rfl,rfl,(filter_first hx0 hp0 hn0).symm,fun _ _=>rfl,HO.out.below hb,Onl.of hb⟩;have HG:=Lib.hid (And.intro hg1 hg2);clear hq0 hx0 hp0 hn0 hb hg1 hg2 hg3;go_wp2_with fail
 clear t0
 go_loopw [5,6] (fun i j wr=>DfL ic 1 3 lo hi p l g cap w i j wr) (fun _ j _=>l.length-(intOf j).toNat)
 case atStart=>exact HST.out
 case round=>
  obtain⟨k,q',m,hkq,hql,rfl,rfl,hml,hmt,hmu,ho,hon⟩:=hrel
  have HML:=Lib.hid hml;have HMT:=Lib.hid hmt;have HMU:=Lib.hid hmu;have HOR:=Lib.hid ho;have HON:=Lib.hid hon;clear hml hmt hmu ho hon
  by_cases hql2:q'<l.length
  case neg=>
   obtain rfl:q' =l.length:=by omega
   have t1:decide ((l.length:Int)<(l.length:Int))=false:=decide_eq_false (by omega);have t1':decide (l.length<l.length)=false:=decide_eq_false (by omega)
   obtain⟨ZS,hZS⟩:∃ZS,ZS=(if l.length-k=0 then [] else (Builtin.zeroCells (.int .i64 0:Value).cells (l.length-k)).toList):=⟨_,rfl⟩
   have hcl:∀ty,(Builtin.clear_ #[26] ty #[.slice (some ⟨g,k,none⟩) (l.length-k) (cap-k)]).run Try.prog wr= .ok (.tuple #[]) (wr.setCells g k ZS):=fun ty=>by
    rw[hZS];have hth:wr.there g k ((l.length-k)*1):=HOR.out.there (HLEN.out m) _ _ (by omega);exact run_clear_n wr 26 3 ty _ Try.underlying26 zvI (by simp[Value.cells,Value.oneCell']) g _ _ _ (fun j hj=>(hth j hj).1) (fun j hj=>(hth j hj).2)
   clear hZS;have i1:(0:Int)≤(k:Int):=by omega
   have i2:(k:Int)≤(l.length:Int):=by omega
   have i3:k≤l.length:=by omega
   have HCP:Hid (l.length≤cap):=Lib.hid (by
    obtain⟨_,h1⟩:=HOR.out.1
    rcases h1 with⟨h1,_⟩|⟨g',c',cur,h1,_,_,h2,_⟩
    ·cases h1
    ·simp only[Value.slice.injEq] at h1
     rw[h1.2.2,←HML.out];exact h2)
   have i4:k≤cap:=by have:=HCP.out;omega
   have i5:(k:Int)≤(cap:Int):=by omega
   have i6:l.length≤cap:=HCP.out;have i7:(l.length:Int)≤(cap:Int):=by omega
   go_wp2_with fail
   go_returns
   have hfl:(l.filter (fun y=> !p y)).length=k:=by
    have h1:=congrArg List.length HMT.out;rw[List.take_length,List.length_take] at h1
    rw[←h1]
    have:=HML.out
    omega
   have hO:=(HOR.out.shrink (HLEN.out m) k i3).past ZS k (by omega);rw[HMT.out,List.take_length] at hO
   rw[hfl]
   exact⟨rfl,hO,grown_onl (HON.out.trans (Onl.setCells ZS _ _ (Onl.refl _ _) (.inl (by simp))))⟩
  case pos=>
  have t1:decide ((q':Int)<(l.length:Int))=true:=decide_eq_true (by omega);have t1':decide (q'<l.length)=true:=decide_eq_true hql2
  obtain⟨x,hx⟩:∃x,m[q']? =some x:=⟨_,List.getElem?_eq_getElem (by have:=HML.out;omega)⟩
  have hxl:l[q']? =some x:=by rw[←HMU.out q' (Nat.le_refl _)];exact hx
  have HRG:=Lib.hid (HOR.out.range (HLEN.out m) hx);have HXL:=Lib.hid hxl;have i1:(0:Int)≤(q':Int):=by omega
  have i2:(q':Int)<(l.length:Int):=by omega
  have HGL:Hid (g<wr.heap.size):=Lib.hid (HOR.out.blk rfl).2.2;clear hx hxl;have e0:wr.cell? ⟨g,q',none⟩=some (.int .i64 x):=by have h:=HRG.out 0 _ rfl;simpa using h
  have HC:Hid (Calls Try.prog q #[.int .i64 x,cv] wr fun e w' =>e= .returned (.bool (p x))∧Below wr.heap.size wr w'):=Lib.hid (HQ.out wr x (List.mem_of_getElem? HXL.out) (grown_onl HON.out))
  go_upto_region 8 with fail
  clear HRG HGL i1 i2 t1 t1' e0
  obtain⟨r,hr⟩:∃r,p x=r:=⟨_,rfl⟩
  rw[hr] at HC
  have HP:=Lib.hid hr;clear hr;go_wp2_with fail
  with_reducible refine HC.out.mono ?_
  rintro e w4 ⟨rfl,hb⟩;replace HOR:=Lib.hid (HOR.out.below hb);replace HON:=Lib.hid (HON.out.grow hb);clear hb HC
  cases r
  case true=>
   go_wp2_with fail
   go_roundw
   case rel=>exact⟨k,q'+1,m,by omega,by omega,rfl,by go_num,HML.out,by rw[filter_next HXL.out,HP.out,HMT.out];simp,fun r hr=>HMU.out r (by omega),HOR.out,HON.out⟩
   case measure=>simp[intOf];omega
  case false=>
   have i1:(0:Int)≤(k:Int):=by omega
   have i2:(k:Int)<(l.length:Int):=by omega
   obtain⟨y0,hy0⟩:∃y,m[k]? =some y:=⟨_,List.getElem?_eq_getElem (by have:=HML.out;omega)⟩
   have hat:=HOR.out.at (HLEN.out m) hy0 (j:=0) rfl k (by simp)
   have e1:=hat.1;have e2:=hat.2;clear hat hy0
   go_upto_region 10 with fail
   obtain⟨w5,hw5⟩:∃W,W=w4.setCell ⟨g,k,none⟩ (.int .i64 x):=⟨_,rfl⟩
   rw[←hw5];have HOR5:Hid (Ox ic 1 3 lo hi w5 (.slice (some ⟨g,0,none⟩) l.length cap) (m.set k x)):=Lib.hid (by rw[hw5];exact⟨Ow.set1 HOR.out.1 (fun x=>(ic_ok x).1) HML.out.symm k x _ rfl,HOR.out.2⟩);have HON5:Hid (Onl [g] w w5):=Lib.hid (HON.out.trans (by rw[hw5];exact Onl.setCell (Onl.refl _ _) (.inl (by simp)) _));clear e1 e2;clear hw5 i1 i2;go_wp2_with fail
   go_roundw
   case rel=>
    refine⟨k+1,q'+1,m.set k x,by omega,by omega,by go_num,by go_num,by rw[List.length_set];exact HML.out,?_,fun r hr=> ?_,HOR5.out,HON5.out⟩
    ·rw[filter_next HXL.out,HP.out,←HMT.out,List.take_add_one,List.getElem?_set_self (by have:=HML.out;omega),List.take_set_of_le (Nat.le_refl k)]
     rfl
    ·rw[List.getElem?_set,if_neg (by omega)]
     exact HMU.out r (by omega)
   case measure=>simp[intOf];omega
end Go.Proofs.Ytpbepnpnpopmfaa
namespace Go.Proofs.Ytpbepnpnpopmfaa
open Go.RowKit Plain
set_option linter.unusedVariables false
set_option linter.unusedSimpArgs false

set_option maxRecDepth 100000 in
set_option maxHeartbeats 4000000 in
theorem idxK(q:Nat)(hcf:∀args w,(callFunc q args).run Try.prog w= .ok (.enter q args) w)(cv:Value)(p:Bk→Bool)(v:Value)(l:List Bk)(w:World)(hs:Rw kc 2 w v l)(hq:∀W x,x∈l→Below w.heap.size w W→Calls Try.prog q #[.agg #[.int .i64 x.bl,.int .i64 x.at'],cv] W fun e w' =>e= .returned (.bool (p x))∧Below W.heap.size W w'):Calls Try.prog 91 #[v,.func (.func q) #[] #[cv]] w (FiA p l w):=by
 obtain⟨hm,a0,c0,rfl,hf⟩:=hs.form
 have HF:=Lib.hid hf;have HQ:=Lib.hid hq;clear hs hf hq;go_enter Try.func91,Try.ntmps91;go_wp2_with fail
 go_loopw [8] (fun i wr=>FiL p l w i wr) (fun i _=>l.length-(intOf i).toNat)
 case atStart=>exact⟨0,Nat.zero_le _,rfl,fun j y h=>by omega,Below.refl _ _⟩
 case round=>
  obtain⟨k,hk,rfl,hn,hb⟩:=hrel
  have HN:=Lib.hid hn;clear hn
  by_cases hlt2:k<l.length
  ·obtain⟨b,off,rfl,hlt,hc⟩:=HF.out (by omega)
   obtain⟨x,hx⟩:∃x,l[k]? =some x:=⟨_,List.getElem?_eq_getElem hlt2⟩
   have HX:=Lib.hid hx;have d0:wr.cell? ⟨b,off+k*2,none⟩=some (.int .i64 x.bl):=(hb.cell (p:=⟨b,off+k*2,none⟩) hlt).trans (hc k x HX.out 0 _ rfl);have d1:wr.cell? ⟨b,off+k*2+1,none⟩=some (.int .i64 x.at'):=(hb.cell (p:=⟨b,off+k*2+1,none⟩) hlt).trans ((Nat.add_assoc off (k*2) 1).symm▸hc k x HX.out 1 _ rfl);have i1:(0:Int)≤(k:Int):=by omega
   have i2:(k:Int)<(l.length:Int):=by omega
   have HBW:=Lib.hid hb;have HC:=Lib.hid (HQ.out wr x (List.mem_of_getElem? hx) hb)
   obtain⟨r,hr⟩:∃r,p x=r:=⟨_,rfl⟩
   rw[hr] at HC
   have HP:=Lib.hid hr;clear hc hx hr hb hlt
   cases r
   ·go_wp2_with fail
    with_reducible refine HC.out.mono ?_
    rintro e w2 ⟨rfl,hb2⟩;have HB2:=Lib.hid (below_via HBW.out hb2);clear hb2;go_wp2_with fail
    go_roundw
    case rel=>exact⟨k+1,by omega,by go_num,fun j y hj hy=>by
     rcases Nat.lt_or_ge j k with h|h
     ·exact HN.out j y h hy
     ·obtain rfl:j=k:=by omega
      have:=HX.out
      rw[hy] at this
      rw[Option.some.inj this];exact HP.out,HB2.out⟩
    case measure=>simp[intOf];omega
   ·go_wp2_with fail
    with_reducible refine HC.out.mono ?_
    rintro e w2 ⟨rfl,hb2⟩;have HB2:=Lib.hid (below_via HBW.out hb2);clear hb2;go_wp2_with fail
    go_returns
    exact⟨⟨k,rfl,.inr ⟨k,x,rfl,HX.out,HP.out,HN.out⟩⟩,HB2.out⟩
  ·obtain rfl:k=l.length:=by omega
   have HBW:=Lib.hid hb;clear hb;go_wp2_with fail
   go_returns
   exact⟨⟨-1,rfl,.inl ⟨rfl,fun x hx=>by
    obtain⟨j,hj⟩:=List.getElem?_of_mem hx
    exact HN.out j x (List.getElem?_eq_some_iff.1 hj).1 hj⟩⟩,HBW.out⟩
theorem zvK(w:World):(zeroValue 95).run Try.prog w= .ok (.agg #[.int .i64 0,.int .i64 0]) w:=by kernel_rfl
set_option maxRecDepth 100000 in
set_option maxHeartbeats 4000000 in
theorem delK(q:Nat)(hcf:∀args w,(callFunc q args).run Try.prog w= .ok (.enter q args) w)(cv:Value)(p:Bk→Bool)(a:Option Addr)(cap:Nat)(l:List Bk)(lo hi:Nat)(w:World)(h:Ox kc 2 95 lo hi w (.slice a l.length cap) l)(hl:l.length≤1000)(hq:∀W x,x∈l→w.grownBy W (Value.slice a l.length cap).ownBlock→Calls Try.prog q #[.agg #[.int .i64 x.bl,.int .i64 x.at'],cv] W fun e w' =>e= .returned (.bool (p x))∧Below W.heap.size W w'):
  Calls Try.prog 83 #[.slice a l.length cap,.func (.func q) #[] #[cv]] w fun e w' =>e= .returned (.slice a (l.filter (fun y=> !p y)).length cap)∧Ox kc 2 95 lo hi w' (.slice a (l.filter (fun y=> !p y)).length cap) (l.filter (fun y=> !p y))∧w.grownBy w' (Value.slice a l.length cap).ownBlock:=by
 have hlen:∀(l:List Bk),∀x∈l,(kc x).length=2:=fun l x _=>(kc_ok x).1
 have HLEN:=Lib.hid hlen;have HI:=Lib.hid (idxK q hcf cv p (.slice a l.length cap) l w (h.rw (hlen l)) (fun W x hx hb=>hq W x hx (grown_below hb)));have HO:=Lib.hid h;have HQ:=Lib.hid hq;clear h hq hlen;go_enter Try.func83,Try.ntmps83;go_wp2_with fail
 with_reducible refine HI.out.mono ?_
 rintro e w1 ⟨⟨r,rfl,hr⟩,hb⟩;rcases hr with⟨rfl,hn⟩|⟨k0,x0,rfl,hx0,hp0,hn0⟩
 ·have HN:=Lib.hid (filter_none hn)
  have HB:=Lib.hid hb;clear hn hb;go_wp2_with fail
  go_returns;rw[HN.out]
  exact⟨rfl,HO.out.below HB.out,grown_below HB.out⟩
 have hk0:k0<l.length:=(List.getElem?_eq_some_iff.1 hx0).1;have t0:((k0:Int)== -1)=false:=by simp
 obtain⟨g,cap',hv,hg1,hg2,hg3⟩:=HO.out.pos (by omega)
 simp only[Value.slice.injEq] at hv
 obtain⟨rfl,hq0,rfl⟩:=hv
 have HST:Hid (DfL kc 2 95 lo hi p l g cap w (.int .i64 k0) (.int .i64 (k0+1:Nat)) w1):=Lib.hid ⟨k0,k0+1,l,by omega,by omega,rfl,rfl,rfl,(filter_first hx0 hp0 hn0).symm,fun _ _=>rfl,HO.out.below hb,Onl.of hb⟩;have HG:=Lib.hid (And.intro hg1 hg2);clear hq0 hx0 hp0 hn0 hb hg1 hg2 hg3;go_wp2_with fail
 clear t0
 go_loopw [5,6] (fun i j wr=>DfL kc 2 95 lo hi p l g cap w i j wr) (fun _ j _=>l.length-(intOf j).toNat)
 case atStart=>exact HST.out
 case round=>
  obtain⟨k,q',m,hkq,hql,rfl,rfl,hml,hmt,hmu,ho,hon⟩:=hrel
  have HML:=Lib.hid hml;have HMT:=Lib.hid hmt;have HMU:=Lib.hid hmu;have HOR:=Lib.hid ho;have HON:=Lib.hid hon;clear hml hmt hmu ho hon
  by_cases hql2:q'<l.length
  case neg=>
   obtain rfl:q' =l.length:=by omega
   have t1:decide ((l.length:Int)<(l.length:Int))=false:=decide_eq_false (by omega);have t1':decide (l.length<l.length)=false:=decide_eq_false (by omega)
   obtain⟨ZS,hZS⟩:∃ZS,ZS=(if l.length-k=0 then [] else (Builtin.zeroCells (.agg #[.int .i64 0,.int .i64 0]:Value).cells (l.length-k)).toList):=⟨_,rfl⟩
   have hcl:∀ty,(Builtin.clear_ #[31] ty #[.slice (some ⟨g,k*2,none⟩) (l.length-k) (cap-k)]).run Try.prog wr= .ok (.tuple #[]) (wr.setCells g (k*2) ZS):=fun ty=>by
    rw[hZS];have hth:wr.there g (k*2) ((l.length-k)*2):=HOR.out.there (HLEN.out m) _ _ (by rw[←Nat.add_mul];exact Nat.mul_le_mul_right _ (by omega));exact run_clear_n wr 31 95 ty _ Try.underlying31 zvK (by simp[Value.cells,Value.oneCell']) g _ _ _ (fun j hj=>(hth j hj).1) (fun j hj=>(hth j hj).2)
   clear hZS;have i1:(0:Int)≤(k:Int):=by omega
   have i2:(k:Int)≤(l.length:Int):=by omega
   have i3:k≤l.length:=by omega
   have HCP:Hid (l.length≤cap):=Lib.hid (by
    obtain⟨_,h1⟩:=HOR.out.1
    rcases h1 with⟨h1,_⟩|⟨g',c',cur,h1,_,_,h2,_⟩
    ·cases h1
    ·simp only[Value.slice.injEq] at h1
     rw[h1.2.2,←HML.out];exact h2)
   have i4:k≤cap:=by have:=HCP.out;omega
   have i5:(k:Int)≤(cap:Int):=by omega
   have i6:l.length≤cap:=HCP.out;have i7:(l.length:Int)≤(cap:Int):=by omega
   go_wp2_with fail
   go_returns
   have hfl:(l.filter (fun y=> !p y)).length=k:=by
    have h1:=congrArg List.length HMT.out;rw[List.take_length,List.length_take] at h1
    rw[←h1]
    have:=HML.out
    omega
   have hO:=(HOR.out.shrink (HLEN.out m) k i3).past ZS (k*2) (Nat.le_refl _);rw[HMT.out,List.take_length] at hO
   rw[hfl]
   exact⟨rfl,hO,grown_onl (HON.out.trans (Onl.setCells ZS _ _ (Onl.refl _ _) (.inl (by simp))))⟩
  case pos=>
  have t1:decide ((q':Int)<(l.length:Int))=true:=decide_eq_true (by omega);have t1':decide (q'<l.length)=true:=decide_eq_true hql2
  obtain⟨x,hx⟩:∃x,m[q']? =some x:=⟨_,List.getElem?_eq_getElem (by have:=HML.out;omega)⟩
  have hxl:l[q']? =some x:=by rw[←HMU.out q' (Nat.le_refl _)];exact hx
  have HRG:=Lib.hid (HOR.out.range (HLEN.out m) hx);have HXL:=Lib.hid hxl;have i1:(0:Int)≤(q':Int):=by omega
  have i2:(q':Int)<(l.length:Int):=by omega
  have HGL:Hid (g<wr.heap.size):=Lib.hid (HOR.out.blk rfl).2.2;clear hx hxl;go_wp2_with (first|(refine wpList_load_mid rfl 95 _ rfl g (q'*2) rfl (kc x) _ HRG.out Try.underlying95 rfl rfl ?_)|(refine wpList_store_rh rfl 95 (kc x).toArray _ _ rfl rfl rfl (Ro.new _ _ _) rfl rfl (arr_one (kc_ok x).2) ?_))
  intro w3 hw3;have hbx:=boxed_r hw3.out
  obtain⟨T,hT⟩:∃n,n=wr.heap.size:=⟨_,rfl⟩
  rw[←hT] at hbx ⊢
  have HT:=Lib.hid hbx.2;have HTG:Hid (T≠g):=Lib.hid (by have:=HGL.out;omega);have hb3:=hbx.1;rw[hT] at hb3
  replace HOR:=Lib.hid (HOR.out.below hb3);replace HON:=Lib.hid (HON.out.grow hb3);have HC:Hid (Calls Try.prog q #[.agg (kc x).toArray,cv] w3 fun e w' =>e= .returned (.bool (p x))∧Below w3.heap.size w3 w'):=Lib.hid (HQ.out w3 x (List.mem_of_getElem? HXL.out) (grown_onl HON.out));clear hw3 hbx hT hb3 HRG HGL i1 i2 t1 t1'
  obtain⟨r,hr⟩:∃r,p x=r:=⟨_,rfl⟩
  rw[hr] at HC
  have HP:=Lib.hid hr;clear hr;go_wp2_with (refine wpList_load_ro rfl 95 (kc x).toArray _ rfl rfl HT.out Try.underlying95 rfl rfl ?_)
  with_reducible refine HC.out.mono ?_
  rintro e w4 ⟨rfl,hb⟩;replace HOR:=Lib.hid (HOR.out.below hb);replace HON:=Lib.hid (HON.out.grow hb);replace HT:=Lib.hid (HT.out.below hb);clear hb HC
  cases r
  case true=>
   go_wp2_with fail
   go_roundw
   case rel=>exact⟨k,q'+1,m,by omega,by omega,rfl,by go_num,HML.out,by rw[filter_next HXL.out,HP.out,HMT.out];simp,fun r hr=>HMU.out r (by omega),HOR.out,HON.out⟩
   case measure=>simp[intOf];omega
  case false=>
   have i1:(0:Int)≤(k:Int):=by omega
   have i2:(k:Int)<(l.length:Int):=by omega
   have HTH:Hid (w4.there g (k*2) 2):=Lib.hid (HOR.out.there (HLEN.out m) _ _ (by rw[←Nat.succ_mul];exact Nat.mul_le_mul_right _ (by omega)));go_wp2_with (first|(refine wpList_load_ro rfl 95 (kc x).toArray _ rfl rfl HT.out Try.underlying95 rfl rfl ?_)|(refine wpList_store_mh rfl 95 _ _ rfl g (k*2) (kc x).toArray rfl rfl HTH.out rfl (arr_one (kc_ok x).2) ?_))
   intro w5 hw5;have HOR5:Hid (Ox kc 2 95 lo hi w5 (.slice (some ⟨g,0,none⟩) l.length cap) (m.set k x)):=Lib.hid (by rw[hw5.out];exact HOR.out.setn (fun x=>(kc_ok x).1) x (by have:=HML.out;omega) _ rfl _ rfl);have HON5:Hid (Onl [g] w w5):=Lib.hid (HON.out.trans (by rw[hw5.out];exact Onl.setCells _ _ _ (Onl.refl _ _) (.inl (by simp))));clear hw5 i1 i2;go_wp2_with fail
   go_roundw
   case rel=>
    refine⟨k+1,q'+1,m.set k x,by omega,by omega,by go_num,by go_num,by rw[List.length_set];exact HML.out,?_,fun r hr=> ?_,HOR5.out,HON5.out⟩
    ·rw[filter_next HXL.out,HP.out,←HMT.out,List.take_add_one,List.getElem?_set_self (by have:=HML.out;omega),List.take_set_of_le (Nat.le_refl k)]
     rfl
    ·rw[List.getElem?_set,if_neg (by omega)]
     exact HMU.out r (by omega)
   case measure=>simp[intOf];omega
end Go.Proofs.Ytpbepnpnpopmfaa
