/- DeleteFunc of ids. DeleteFunc of ids and of blocks. -/
import Derived.Test.YtpbepnpnpopmfaaGreatTDx
import Derived.Deep.DeepCutAuto
import Derived.LoopTactic
import Derived.Deep.MidRow
import Derived.Lib.SliceRun
open Go.RowKit Go.Proofs.YtpbepnpnpopmfaaGreat
set_option maxRecDepth 100000
set_option maxHeartbeats 4000000
namespace Go.Proofs.YtpbepnpnpopmfaaGreat
open Plain
set_option linter.unusedVariables false
set_option linter.unusedSimpArgs false

theorem idxI(q:Nat)(hcf:∀args w,(callFunc q args).run Tryz.prog w= .ok (.enter q args) w)(cv:Value)(p:Int->Bool)(v:Value)(l:List Int)(w:World)(hs:Rw ic 1 w v l)(hq:∀W x,x∈l->Below w.heap.size w W->Calls Tryz.prog q #[.int .i64 x,cv] W fun e w' =>e= .returned (.bool (p x))/\Below W.heap.size W w'):Calls Tryz.prog 117 #[v,.func (.func q) #[] #[cv]] w (FiA p l w):=by
 obtain⟨hm,a0,c0,rfl,hf⟩:=hs.form
 have HF:=Hd hf;have HQ:=Hd hq;clear hs hf hq;go_enter Tryz.func117,Tryz.ntmps117;go_wp2_with fail
 go_loopw [8] (fun i wr=>FiL p l w i wr) (fun i _=>l.length-(intOf i).toNat)
 case atStart=>exact⟨0,Nat.zero_le _,rfl,fun j y h=>by omega,Below.refl _ _⟩
 obtain⟨k,hk,rfl,hn,hb⟩:=hrel
 have HN:=Hd hn;clear hn
 by_cases hlt2:k<l.length
 ·obtain⟨b,off,rfl,hlt,hc⟩:=HF.o (by omega)
  obtain⟨x,hx⟩:∃x,l[k]? =some x:=⟨_,List.getElem?_eq_getElem hlt2⟩
  have HX:=Hd hx;have d0:wr.cell? ⟨b,off+k,none⟩=some (.int .i64 x):=(hb.cell (p:=⟨b,off+k,none⟩) hlt).trans (by have h:=hc k x HX.o 0 _ rfl;simpa using h);have i1:(0:Int)<=(k:Int):=by omega
  have i2:(k:Int)<(l.length:Int):=by omega
  have HBW:=Hd hb;have HC:=Hd (HQ.o wr x (List.mem_of_getElem? hx) hb)
  obtain⟨r,hr⟩:∃r,p x=r:=⟨_,rfl⟩
  rw[hr] at HC
  have HP:=Hd hr;clear hc hx hr hb hlt
  cases r
  ·go_wp2_with fail
   with_reducible refine HC.o.mono ?_
   rintro e w2 ⟨rfl,hb2⟩;have HB2:=Hd (below_via HBW.o hb2);clear hb2;go_wp2_with fail
   go_roundw
   case rel=>exact⟨k+1,by omega,by go_num,fun j y hj hy=>by
    rcases Nat.lt_or_ge j k with h|h
    ·exact HN.o j y h hy
    obtain rfl:j=k:=by omega
    have:=HX.o
    rw[hy] at this
    rw[Option.some.inj this];exact HP.o,HB2.o⟩
   case measure=>simp[intOf];omega
  go_wp2_with fail
  with_reducible refine HC.o.mono ?_
  rintro e w2 ⟨rfl,hb2⟩;have HB2:=Hd (below_via HBW.o hb2);clear hb2;go_wp2_with fail
  go_returns
  exact⟨⟨k,rfl,.inr ⟨k,x,rfl,HX.o,HP.o,HN.o⟩⟩,HB2.o⟩
 obtain rfl:k=l.length:=by omega
 have HBW:=Hd hb;clear hb;go_wp2_with fail
 go_returns
 exact⟨⟨-1,rfl,.inl ⟨rfl,fun x hx=>by
  obtain⟨j,hj⟩:=List.getElem?_of_mem hx
  exact HN.o j x (List.getElem?_eq_some_iff.1 hj).1 hj⟩⟩,HBW.o⟩
theorem zvI(w:World):(zeroValue 3).run Tryz.prog w= .ok (.int .i64 0) w:=by kernel_rfl
theorem delI(q:Nat)(hcf:∀args w,(callFunc q args).run Tryz.prog w= .ok (.enter q args) w)(cv:Value)(p:Int->Bool)(a:Option Addr)(cap:Nat)(l:List Int)(lo hi:Nat)(w:World)(h:Ox ic 1 3 lo hi w (.slice a l.length cap) l)(hl:l.length<=1000)(hq:∀W x,x∈l->w.grownBy W (Value.slice a l.length cap).ownBlock->Calls Tryz.prog q #[.int .i64 x,cv] W fun e w' =>e= .returned (.bool (p x))/\Below W.heap.size W w'):
  Calls Tryz.prog 106 #[.slice a l.length cap,.func (.func q) #[] #[cv]] w fun e w' =>e= .returned (.slice a (l.filter (fun y=> !p y)).length cap)/\Ox ic 1 3 lo hi w' (.slice a (l.filter (fun y=> !p y)).length cap) (l.filter (fun y=> !p y))/\w.grownBy w' (Value.slice a l.length cap).ownBlock:=by
 have hlen:∀(l:List Int),∀x∈l,(ic x).length=1:=fun l x _=>(ic_ok x).1
 have HLEN:=Hd hlen;have HI:=Hd (idxI q hcf cv p (.slice a l.length cap) l w (h.rw (hlen l)) (fun W x hx hb=>hq W x hx (grown_below hb)));have HO:=Hd h;have HQ:=Hd hq;clear h hq hlen;go_enter Tryz.func106,Tryz.ntmps106;go_wp2_with fail
 with_reducible refine HI.o.mono ?_
 rintro e w1 ⟨⟨r,rfl,hr⟩,hb⟩;rcases hr with⟨rfl,hn⟩|⟨k0,x0,rfl,hx0,hp0,hn0⟩
 ·have HN:=Hd (filter_none hn)
  have HB:=Hd hb;clear hn hb;go_wp2_with fail
  go_returns;rw[HN.o]
  exact⟨rfl,HO.o.below HB.o,grown_below HB.o⟩
 have hk0:k0<l.length:=(List.getElem?_eq_some_iff.1 hx0).1;have t0:((k0:Int)== -1)=false:=by simp
 obtain⟨g,cap',hv,hg1,hg2,hg3⟩:=HO.o.pos (by omega)
 simp only[Value.slice.injEq] at hv
 obtain⟨rfl,hq0,rfl⟩:=hv
 have HST:Hid (DfL ic 1 3 lo hi p l g cap w (.int .i64 k0) (.int .i64 (k0+1:Nat)) w1):=Hd ⟨k0,k0+1,l,by omega,by omega,rfl,rfl,rfl,(filter_first hx0 hp0 hn0).symm,fun _ _=>rfl,HO.o.below hb,Onl.of hb⟩;have HG:=Hd (And.intro hg1 hg2);clear hq0 hx0 hp0 hn0 hb hg1 hg2 hg3;go_wp2_with fail
 clear t0
 go_loopw [5,6] (fun i j wr=>DfL ic 1 3 lo hi p l g cap w i j wr) (fun _ j _=>l.length-(intOf j).toNat)
 case atStart=>exact HST.o
 obtain⟨k,q',m,hkq,hql,rfl,rfl,hml,hmt,hmu,ho,hon⟩:=hrel
 have HML:=Hd hml;have HMT:=Hd hmt;have HMU:=Hd hmu;have HOR:=Hd ho;have HON:=Hd hon;clear hml hmt hmu ho hon
 by_cases hql2:q'<l.length
 case neg=>
  obtain rfl:q' =l.length:=by omega
  have t1:decide ((l.length:Int)<(l.length:Int))=false:=decide_eq_false (by omega);have t1':decide (l.length<l.length)=false:=decide_eq_false (by omega)
  obtain⟨ZS,hZS⟩:∃ZS,ZS=(if l.length-k=0 then [] else (Builtin.zeroCells (.int .i64 0:Value).cells (l.length-k)).toList):=⟨_,rfl⟩
  have hcl:∀ty,(Builtin.clear_ #[26] ty #[.slice (some ⟨g,k,none⟩) (l.length-k) (cap-k)]).run Tryz.prog wr= .ok (.tuple #[]) (wr.setCells g k ZS):=fun ty=>by
   rw[hZS];have hth:wr.there g k ((l.length-k)*1):=HOR.o.there (HLEN.o m) _ _ (by omega);exact run_clear_n wr 26 3 ty _ Tryz.underlying26 zvI (by simp[Value.cells,Value.oneCell']) g _ _ _ (fun j hj=>(hth j hj).1) (fun j hj=>(hth j hj).2)
  clear hZS;have i1:(0:Int)<=(k:Int):=by omega
  have i2:(k:Int)<=(l.length:Int):=by omega
  have i3:k<=l.length:=by omega
  have HCP:Hid (l.length<=cap):=Hd (by
   obtain⟨_,h1⟩:=HOR.o.1
   rcases h1 with⟨h1,_⟩|⟨g',c',cur,h1,_,_,h2,_⟩
   ·cases h1
   simp only[Value.slice.injEq] at h1
   rw[h1.2.2,<-HML.o];exact h2)
  have i4:k<=cap:=by have:=HCP.o;omega
  have i5:(k:Int)<=(cap:Int):=by omega
  have i6:l.length<=cap:=HCP.o;have i7:(l.length:Int)<=(cap:Int):=by omega
  go_wp2_with fail
  go_returns
  have hfl:(l.filter (fun y=> !p y)).length=k:=by
   have h1:=congrArg List.length HMT.o;rw[List.take_length,List.length_take] at h1
   rw[<-h1]
   have:=HML.o
   omega
  have hO:=(HOR.o.shrink (HLEN.o m) k i3).past ZS k (by omega);rw[HMT.o,List.take_length] at hO
  rw[hfl]
  exact⟨rfl,hO,grown_onl (HON.o.trans (Onl.setCells ZS _ _ (Onl.refl _ _) (.inl (by simp))))⟩
 case pos=>
 have t1:decide ((q':Int)<(l.length:Int))=true:=decide_eq_true (by omega);have t1':decide (q'<l.length)=true:=decide_eq_true hql2
 obtain⟨x,hx⟩:∃x,m[q']? =some x:=⟨_,List.getElem?_eq_getElem (by have:=HML.o;omega)⟩
 have hxl:l[q']? =some x:=by rw[<-HMU.o q' (Nat.le_refl _)];exact hx
 have HRG:=Hd (HOR.o.range (HLEN.o m) hx);have HXL:=Hd hxl;have i1:(0:Int)<=(q':Int):=by omega
 have i2:(q':Int)<(l.length:Int):=by omega
 have HGL:Hid (g<wr.heap.size):=Hd (HOR.o.blk rfl).2.2;clear hx hxl;have e0:wr.cell? ⟨g,q',none⟩=some (.int .i64 x):=by have h:=HRG.o 0 _ rfl;simpa using h
 have HC:Hid (Calls Tryz.prog q #[.int .i64 x,cv] wr fun e w' =>e= .returned (.bool (p x))/\Below wr.heap.size wr w'):=Hd (HQ.o wr x (List.mem_of_getElem? HXL.o) (grown_onl HON.o))
 go_upto_region 8 with fail
 clear HRG HGL i1 i2 t1 t1' e0
 obtain⟨r,hr⟩:∃r,p x=r:=⟨_,rfl⟩
 rw[hr] at HC
 have HP:=Hd hr;clear hr;go_wp2_with fail
 with_reducible refine HC.o.mono ?_
 rintro e w4 ⟨rfl,hb⟩;replace HOR:=Hd (HOR.o.below hb);replace HON:=Hd (HON.o.grow hb);clear hb HC
 cases r
 case true=>
  go_wp2_with fail
  go_roundw
  case rel=>exact⟨k,q'+1,m,by omega,by omega,rfl,by go_num,HML.o,by rw[filter_next HXL.o,HP.o,HMT.o];simp,fun r hr=>HMU.o r (by omega),HOR.o,HON.o⟩
  case measure=>simp[intOf];omega
 case false=>
  have i1:(0:Int)<=(k:Int):=by omega
  have i2:(k:Int)<(l.length:Int):=by omega
  obtain⟨y0,hy0⟩:∃y,m[k]? =some y:=⟨_,List.getElem?_eq_getElem (by have:=HML.o;omega)⟩
  have hat:=HOR.o.at (HLEN.o m) hy0 (j:=0) rfl k (by simp)
  have e1:=hat.1;have e2:=hat.2;clear hat hy0
  go_upto_region 10 with fail
  obtain⟨w5,hw5⟩:∃W,W=w4.setCell ⟨g,k,none⟩ (.int .i64 x):=⟨_,rfl⟩
  rw[<-hw5];have HOR5:Hid (Ox ic 1 3 lo hi w5 (.slice (some ⟨g,0,none⟩) l.length cap) (m.set k x)):=Hd (by rw[hw5];exact⟨Ow.set1 HOR.o.1 (fun x=>(ic_ok x).1) HML.o.symm k x _ rfl,HOR.o.2⟩);have HON5:Hid (Onl [g] w w5):=Hd (HON.o.trans (by rw[hw5];exact Onl.setCell (Onl.refl _ _) (.inl (by simp)) _));clear e1 e2;clear hw5 i1 i2;go_wp2_with fail
  go_roundw
  case rel=>
   refine⟨k+1,q'+1,m.set k x,by omega,by omega,by go_num,by go_num,by rw[List.length_set];exact HML.o,?_,fun r hr=> ?_,HOR5.o,HON5.o⟩
   ·rw[filter_next HXL.o,HP.o,<-HMT.o,List.take_add_one,List.getElem?_set_self (by have:=HML.o;omega),List.take_set_of_le (Nat.le_refl k)]
    rfl
   rw[List.getElem?_set,if_neg (by omega)];exact HMU.o r (by omega)
  case measure=>simp[intOf];omega
end Go.Proofs.YtpbepnpnpopmfaaGreat
namespace Go.Proofs.YtpbepnpnpopmfaaGreat
open Plain
set_option linter.unusedVariables false
set_option linter.unusedSimpArgs false

theorem idxK(q:Nat)(hcf:∀args w,(callFunc q args).run Tryz.prog w= .ok (.enter q args) w)(cv:Value)(p:Bk->Bool)(v:Value)(l:List Bk)(w:World)(hs:Rw kc 2 w v l)(hq:∀W x,x∈l->Below w.heap.size w W->Calls Tryz.prog q #[.agg #[.int .i64 x.bl,.int .i64 x.at'],cv] W fun e w' =>e= .returned (.bool (p x))/\Below W.heap.size W w'):Calls Tryz.prog 118 #[v,.func (.func q) #[] #[cv]] w (FiA p l w):=by
 obtain⟨hm,a0,c0,rfl,hf⟩:=hs.form
 have HF:=Hd hf;have HQ:=Hd hq;clear hs hf hq;go_enter Tryz.func118,Tryz.ntmps118;go_wp2_with fail
 go_loopw [8] (fun i wr=>FiL p l w i wr) (fun i _=>l.length-(intOf i).toNat)
 case atStart=>exact⟨0,Nat.zero_le _,rfl,fun j y h=>by omega,Below.refl _ _⟩
 obtain⟨k,hk,rfl,hn,hb⟩:=hrel
 have HN:=Hd hn;clear hn
 by_cases hlt2:k<l.length
 ·obtain⟨b,off,rfl,hlt,hc⟩:=HF.o (by omega)
  obtain⟨x,hx⟩:∃x,l[k]? =some x:=⟨_,List.getElem?_eq_getElem hlt2⟩
  have HX:=Hd hx;have d0:wr.cell? ⟨b,off+k*2,none⟩=some (.int .i64 x.bl):=(hb.cell (p:=⟨b,off+k*2,none⟩) hlt).trans (hc k x HX.o 0 _ rfl);have d1:wr.cell? ⟨b,off+k*2+1,none⟩=some (.int .i64 x.at'):=(hb.cell (p:=⟨b,off+k*2+1,none⟩) hlt).trans ((Nat.add_assoc off (k*2) 1).symm▸hc k x HX.o 1 _ rfl);have i1:(0:Int)<=(k:Int):=by omega
  have i2:(k:Int)<(l.length:Int):=by omega
  have HBW:=Hd hb;have HC:=Hd (HQ.o wr x (List.mem_of_getElem? hx) hb)
  obtain⟨r,hr⟩:∃r,p x=r:=⟨_,rfl⟩
  rw[hr] at HC
  have HP:=Hd hr;clear hc hx hr hb hlt
  cases r
  ·go_wp2_with fail
   with_reducible refine HC.o.mono ?_
   rintro e w2 ⟨rfl,hb2⟩;have HB2:=Hd (below_via HBW.o hb2);clear hb2;go_wp2_with fail
   go_roundw
   case rel=>exact⟨k+1,by omega,by go_num,fun j y hj hy=>by
    rcases Nat.lt_or_ge j k with h|h
    ·exact HN.o j y h hy
    obtain rfl:j=k:=by omega
    have:=HX.o
    rw[hy] at this
    rw[Option.some.inj this];exact HP.o,HB2.o⟩
   case measure=>simp[intOf];omega
  go_wp2_with fail
  with_reducible refine HC.o.mono ?_
  rintro e w2 ⟨rfl,hb2⟩;have HB2:=Hd (below_via HBW.o hb2);clear hb2;go_wp2_with fail
  go_returns
  exact⟨⟨k,rfl,.inr ⟨k,x,rfl,HX.o,HP.o,HN.o⟩⟩,HB2.o⟩
 obtain rfl:k=l.length:=by omega
 have HBW:=Hd hb;clear hb;go_wp2_with fail
 go_returns
 exact⟨⟨-1,rfl,.inl ⟨rfl,fun x hx=>by
  obtain⟨j,hj⟩:=List.getElem?_of_mem hx
  exact HN.o j x (List.getElem?_eq_some_iff.1 hj).1 hj⟩⟩,HBW.o⟩
theorem zvK(w:World):(zeroValue 89).run Tryz.prog w= .ok (.agg #[.int .i64 0,.int .i64 0]) w:=by kernel_rfl
theorem delK(q:Nat)(hcf:∀args w,(callFunc q args).run Tryz.prog w= .ok (.enter q args) w)(cv:Value)(p:Bk->Bool)(a:Option Addr)(cap:Nat)(l:List Bk)(lo hi:Nat)(w:World)(h:Ox kc 2 89 lo hi w (.slice a l.length cap) l)(hl:l.length<=1000)(hq:∀W x,x∈l->w.grownBy W (Value.slice a l.length cap).ownBlock->Calls Tryz.prog q #[.agg #[.int .i64 x.bl,.int .i64 x.at'],cv] W fun e w' =>e= .returned (.bool (p x))/\Below W.heap.size W w'):
  Calls Tryz.prog 109 #[.slice a l.length cap,.func (.func q) #[] #[cv]] w fun e w' =>e= .returned (.slice a (l.filter (fun y=> !p y)).length cap)/\Ox kc 2 89 lo hi w' (.slice a (l.filter (fun y=> !p y)).length cap) (l.filter (fun y=> !p y))/\w.grownBy w' (Value.slice a l.length cap).ownBlock:=by
 have hlen:∀(l:List Bk),∀x∈l,(kc x).length=2:=fun l x _=>(kc_ok x).1
 have HLEN:=Hd hlen;have HI:=Hd (idxK q hcf cv p (.slice a l.length cap) l w (h.rw (hlen l)) (fun W x hx hb=>hq W x hx (grown_below hb)));have HO:=Hd h;have HQ:=Hd hq;clear h hq hlen;go_enter Tryz.func109,Tryz.ntmps109;go_wp2_with fail
 with_reducible refine HI.o.mono ?_
 rintro e w1 ⟨⟨r,rfl,hr⟩,hb⟩;rcases hr with⟨rfl,hn⟩|⟨k0,x0,rfl,hx0,hp0,hn0⟩
 ·have HN:=Hd (filter_none hn)
  have HB:=Hd hb;clear hn hb;go_wp2_with fail
  go_returns;rw[HN.o]
  exact⟨rfl,HO.o.below HB.o,grown_below HB.o⟩
 have hk0:k0<l.length:=(List.getElem?_eq_some_iff.1 hx0).1;have t0:((k0:Int)== -1)=false:=by simp
 obtain⟨g,cap',hv,hg1,hg2,hg3⟩:=HO.o.pos (by omega)
 simp only[Value.slice.injEq] at hv
 obtain⟨rfl,hq0,rfl⟩:=hv
 have HST:Hid (DfL kc 2 89 lo hi p l g cap w (.int .i64 k0) (.int .i64 (k0+1:Nat)) w1):=Hd ⟨k0,k0+1,l,by omega,by omega,rfl,rfl,rfl,(filter_first hx0 hp0 hn0).symm,fun _ _=>rfl,HO.o.below hb,Onl.of hb⟩;have HG:=Hd (And.intro hg1 hg2);clear hq0 hx0 hp0 hn0 hb hg1 hg2 hg3;go_wp2_with fail
 clear t0
 go_loopw [5,6] (fun i j wr=>DfL kc 2 89 lo hi p l g cap w i j wr) (fun _ j _=>l.length-(intOf j).toNat)
 case atStart=>exact HST.o
 obtain⟨k,q',m,hkq,hql,rfl,rfl,hml,hmt,hmu,ho,hon⟩:=hrel
 have HML:=Hd hml;have HMT:=Hd hmt;have HMU:=Hd hmu;have HOR:=Hd ho;have HON:=Hd hon;clear hml hmt hmu ho hon
 by_cases hql2:q'<l.length
 case neg=>
  obtain rfl:q' =l.length:=by omega
  have t1:decide ((l.length:Int)<(l.length:Int))=false:=decide_eq_false (by omega);have t1':decide (l.length<l.length)=false:=decide_eq_false (by omega)
  obtain⟨ZS,hZS⟩:∃ZS,ZS=(if l.length-k=0 then [] else (Builtin.zeroCells (.agg #[.int .i64 0,.int .i64 0]:Value).cells (l.length-k)).toList):=⟨_,rfl⟩
  have hcl:∀ty,(Builtin.clear_ #[31] ty #[.slice (some ⟨g,k*2,none⟩) (l.length-k) (cap-k)]).run Tryz.prog wr= .ok (.tuple #[]) (wr.setCells g (k*2) ZS):=fun ty=>by
   rw[hZS];have hth:wr.there g (k*2) ((l.length-k)*2):=HOR.o.there (HLEN.o m) _ _ (by rw[<-Nat.add_mul];exact Nat.mul_le_mul_right _ (by omega));exact run_clear_n wr 31 89 ty _ Tryz.underlying31 zvK (by simp[Value.cells,Value.oneCell']) g _ _ _ (fun j hj=>(hth j hj).1) (fun j hj=>(hth j hj).2)
  clear hZS;have i1:(0:Int)<=(k:Int):=by omega
  have i2:(k:Int)<=(l.length:Int):=by omega
  have i3:k<=l.length:=by omega
  have HCP:Hid (l.length<=cap):=Hd (by
   obtain⟨_,h1⟩:=HOR.o.1
   rcases h1 with⟨h1,_⟩|⟨g',c',cur,h1,_,_,h2,_⟩
   ·cases h1
   simp only[Value.slice.injEq] at h1
   rw[h1.2.2,<-HML.o];exact h2)
  have i4:k<=cap:=by have:=HCP.o;omega
  have i5:(k:Int)<=(cap:Int):=by omega
  have i6:l.length<=cap:=HCP.o;have i7:(l.length:Int)<=(cap:Int):=by omega
  go_wp2_with fail
  go_returns
  have hfl:(l.filter (fun y=> !p y)).length=k:=by
   have h1:=congrArg List.length HMT.o;rw[List.take_length,List.length_take] at h1
   rw[<-h1]
   have:=HML.o
   omega
  have hO:=(HOR.o.shrink (HLEN.o m) k i3).past ZS (k*2) (Nat.le_refl _);rw[HMT.o,List.take_length] at hO
  rw[hfl]
  exact⟨rfl,hO,grown_onl (HON.o.trans (Onl.setCells ZS _ _ (Onl.refl _ _) (.inl (by simp))))⟩
 case pos=>
 have t1:decide ((q':Int)<(l.length:Int))=true:=decide_eq_true (by omega);have t1':decide (q'<l.length)=true:=decide_eq_true hql2
 obtain⟨x,hx⟩:∃x,m[q']? =some x:=⟨_,List.getElem?_eq_getElem (by have:=HML.o;omega)⟩
 have hxl:l[q']? =some x:=by rw[<-HMU.o q' (Nat.le_refl _)];exact hx
 have HRG:=Hd (HOR.o.range (HLEN.o m) hx);have HXL:=Hd hxl;have i1:(0:Int)<=(q':Int):=by omega
 have i2:(q':Int)<(l.length:Int):=by omega
 have HGL:Hid (g<wr.heap.size):=Hd (HOR.o.blk rfl).2.2;clear hx hxl;go_wp2_with (first|(refine wpList_load_mid rfl 89 _ rfl g (q'*2) rfl (kc x) _ HRG.o Tryz.underlying89 rfl rfl ?_)|(refine wpList_store_rh rfl 89 (kc x).toArray _ _ rfl rfl rfl (Ro.new _ _ _) rfl rfl (arr_one (kc_ok x).2) ?_))
 intro w3 hw3;have hbx:=boxed_r hw3.out
 obtain⟨T,hT⟩:∃n,n=wr.heap.size:=⟨_,rfl⟩
 rw[<-hT] at hbx ⊢
 have HT:=Hd hbx.2;have HTG:Hid (T≠g):=Hd (by have:=HGL.o;omega);have hb3:=hbx.1;rw[hT] at hb3
 replace HOR:=Hd (HOR.o.below hb3);replace HON:=Hd (HON.o.grow hb3);have HC:Hid (Calls Tryz.prog q #[.agg (kc x).toArray,cv] w3 fun e w' =>e= .returned (.bool (p x))/\Below w3.heap.size w3 w'):=Hd (HQ.o w3 x (List.mem_of_getElem? HXL.o) (grown_onl HON.o));clear hw3 hbx hT hb3 HRG HGL i1 i2 t1 t1'
 obtain⟨r,hr⟩:∃r,p x=r:=⟨_,rfl⟩
 rw[hr] at HC
 have HP:=Hd hr;clear hr;go_wp2_with (refine wpList_load_ro rfl 89 (kc x).toArray _ rfl rfl HT.o Tryz.underlying89 rfl rfl ?_)
 with_reducible refine HC.o.mono ?_
 rintro e w4 ⟨rfl,hb⟩;replace HOR:=Hd (HOR.o.below hb);replace HON:=Hd (HON.o.grow hb);replace HT:=Hd (HT.o.below hb);clear hb HC
 cases r
 case true=>
  go_wp2_with fail
  go_roundw
  case rel=>exact⟨k,q'+1,m,by omega,by omega,rfl,by go_num,HML.o,by rw[filter_next HXL.o,HP.o,HMT.o];simp,fun r hr=>HMU.o r (by omega),HOR.o,HON.o⟩
  case measure=>simp[intOf];omega
 case false=>
  have i1:(0:Int)<=(k:Int):=by omega
  have i2:(k:Int)<(l.length:Int):=by omega
  have HTH:Hid (w4.there g (k*2) 2):=Hd (HOR.o.there (HLEN.o m) _ _ (by rw[<-Nat.succ_mul];exact Nat.mul_le_mul_right _ (by omega)));go_wp2_with (first|(refine wpList_load_ro rfl 89 (kc x).toArray _ rfl rfl HT.o Tryz.underlying89 rfl rfl ?_)|(refine wpList_store_mh rfl 89 _ _ rfl g (k*2) (kc x).toArray rfl rfl HTH.o rfl (arr_one (kc_ok x).2) ?_))
  intro w5 hw5;have HOR5:Hid (Ox kc 2 89 lo hi w5 (.slice (some ⟨g,0,none⟩) l.length cap) (m.set k x)):=Hd (by rw[hw5.out];exact HOR.o.setn (fun x=>(kc_ok x).1) x (by have:=HML.o;omega) _ rfl _ rfl);have HON5:Hid (Onl [g] w w5):=Hd (HON.o.trans (by rw[hw5.out];exact Onl.setCells _ _ _ (Onl.refl _ _) (.inl (by simp))));clear hw5 i1 i2;go_wp2_with fail
  go_roundw
  case rel=>
   refine⟨k+1,q'+1,m.set k x,by omega,by omega,by go_num,by go_num,by rw[List.length_set];exact HML.o,?_,fun r hr=> ?_,HOR5.o,HON5.o⟩
   ·rw[filter_next HXL.o,HP.o,<-HMT.o,List.take_add_one,List.getElem?_set_self (by have:=HML.o;omega),List.take_set_of_le (Nat.le_refl k)]
    rfl
   rw[List.getElem?_set,if_neg (by omega)];exact HMU.o r (by omega)
  case measure=>simp[intOf];omega
end Go.Proofs.YtpbepnpnpopmfaaGreat
