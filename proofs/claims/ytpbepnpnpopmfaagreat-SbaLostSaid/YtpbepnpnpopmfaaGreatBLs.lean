/- Boards that are small; changing the memory of a board. -/
import Derived.Test.YtpbepnpnpopmfaaGreatBRg
import Derived.Test.YtpbepnpnpopmfaaGreatBOw
import Derived.Test.YtpbepnpnpopmfaaGreatBSm
import Derived.Deep.DeepCutAuto
import Derived.LoopTactic
import Derived.Deep.MidRow
open Go.RowKit Go.Proofs.YtpbepnpnpopmfaaGreat
set_option maxRecDepth 100000
set_option maxHeartbeats 4000000
namespace Go.Proofs.YtpbepnpnpopmfaaGreat
open Plain
set_option linter.unusedVariables false
set_option linter.unusedSimpArgs false

def ImpB(P:Prop)(w:World)(e:Ending)(w':World):Prop:=(∃r,e= .returned (.bool r)/\(r=true->P))/\Below w.heap.size w w'
theorem impF{P:Prop}{w w':World}(hb:Below w.heap.size w w'):ImpB P w (.returned (.bool false)) w':=⟨⟨false,rfl,fun h=>by cases h⟩,hb⟩
structure Plain.Bd.Tiny(B:Bd):Prop where
 zs:∀(p z:Nat),p<2->z<4->((B.seat p).zs z).length<=40
 st:B.st.length<=20
 qu:B.qu.length<=20
 stt:∀x∈B.st,x.tg.length<=6
 qut:∀x∈B.qu,x.tg.length<=6
 ob:B.ob.length<=30
 att:B.att.length<=30
 bl:B.bl.length<=30
def SlP(w:World)(s:Bs)(B:Bd)(v:Value)(wr:World):Prop:=∃p:Nat,p<=2/\v= .int .i64 p/\Below w.heap.size w wr/\Bx wr w.heap.size s B/\∀q z,q<p->z<4->((B.seat q).zs z).length<=40
def SlZ(w:World)(s:Bs)(B:Bd)(p:Nat)(v:Value)(wr:World):Prop:=∃z:Nat,z<=4/\v= .int .i64 z/\Below w.heap.size w wr/\Bx wr w.heap.size s B/\∀y,y<z->((B.seat p).zs y).length<=40
def Bd.its(B:Bd)(i:Nat):List It:=if i=0 then B.st else B.qu
def Bs.its(s:Bs)(i:Nat):Sl:=if i=0 then s.st else s.qu
def SlI(w:World)(s:Bs)(B:Bd)(C:Nat)(v:Value)(wr:World):Prop:=∃i:Nat,i<=2/\v= .int .i64 i/\Below w.heap.size w wr/\Bx wr w.heap.size s B/\Ro wr C #[s.st.v,s.qu.v] 30/\∀j,j<i->(Bd.its B j).length<=20/\∀x∈Bd.its B j,x.tg.length<=6
def SlK(w:World)(s:Bs)(B:Bd)(C:Nat)(l:List It)(v:Value)(wr:World):Prop:=∃k:Nat,k<=l.length/\v= .int .i64 k/\Below w.heap.size w wr/\Bx wr w.heap.size s B/\Ro wr C #[s.st.v,s.qu.v] 30/\∀x∈l.take k,x.tg.length<=6
theorem BdR.its{w:World}{s:Bs}{B:Bd}(h:BdR w s B)(i:Nat):ItR w (Bs.its s i).v (Bd.its B i):=by
 unfold Bs.its Bd.its
 split
 ·exact h.st
 exact h.qu
theorem ItR.len{w:World}{a:Option Addr}{n c:Nat}{l:List It}(h:ItR w (.slice a n c) l):n=l.length:=by
 obtain⟨l',rfl,h1,_⟩:=h
 rw[List.length_map];exact h1.length
theorem bsmall(s:Bs)(B:Bd)(w:World)(h:BdR w s B):Calls Tryz.prog 7 #[bv s B] w (ImpB B.Tiny w):=by
 have HR:=Hd h
 obtain⟨hmo,ao,co,hvo,_⟩:=h.ob.form
 obtain⟨hma,aa,ca,hva,_⟩:=h.att.form
 obtain⟨hmb,ab,cb,hvb,_⟩:=h.bl.form
 have HC0:Hid (∀W,Bx W w.heap.size s B->W.cell? ⟨w.heap.size,0,none⟩=some (.slice ao B.ob.length co)):=Hd (fun W h=>by rw[h.cell 0,<-hvo];rfl);have HC31:Hid (∀W,Bx W w.heap.size s B->W.cell? ⟨w.heap.size,31,none⟩=some (.slice aa B.att.length ca)):=Hd (fun W h=>by rw[h.cell 31,<-hva];rfl);have HC32:Hid (∀W,Bx W w.heap.size s B->W.cell? ⟨w.heap.size,32,none⟩=some (.slice ab B.bl.length cb)):=Hd (fun W h=>by rw[h.cell 32,<-hvb];rfl);clear h hvo hva hvb;go_enter Tryz.func7,Tryz.ntmps7
 go_upto_region 1 with fail
 change Code.wp Tryz.prog _ _ _ (w.alloc (.cells (bcells s B) 34))
 obtain⟨wz,hwz⟩:∃W,W=w.alloc (.cells (bcells s B) 34):=⟨_,rfl⟩
 have HX:Hid (Bx wz w.heap.size s B):=Hd (by rw[hwz];exact heap_alloc_new _ _);have HBZ:Hid (Below w.heap.size w wz):=Hd (by rw[hwz];exact(Below.refl _ _).alloc (Nat.le_refl _) _);rw[<-hwz];clear hwz;have HB:=HBZ;clear HBZ;go_wp2_with fail
 go_loopw [3] (fun v wr=>SlP w s B v wr) (fun v _=>2-(intOf v).toNat)
 case atStart=>exact⟨0,by omega,rfl,HB.o,HX.o,fun q z h=>by omega⟩
 obtain⟨p,hp,rfl,hb,hx,hs⟩:=hrel
 replace HB:=Hd hb;replace HX:=Hd hx;have HS:=Hd hs;clear hb hx hs
 by_cases hp2:p<2
 ·have i1:(0:Int)<=(p:Int):=by omega
  have i2:(p:Int)<2:=by omega
  go_wp2_with (refine wpList_load_mid rfl 28 _ rfl w.heap.size (1+p*14) rfl (seL (s.zl p 0) (s.zl p 1) (s.zl p 2) (s.zl p 3) (B.seat p)) _ (HX.o.seat hp2) Tryz.underlying28 rfl rfl ?_)
  with_reducible refine(zonesV _ _ _ _ _ _).mono ?_
  rintro e w2 ⟨rfl,hb2⟩;replace HX:=Hd (HX.o.below hb2);replace HB:=Hd (below_via HB.o hb2);clear hb2;go_wp2_with fail
  go_loopw [18] (fun v wr=>SlZ w s B p v wr) (fun v _=>4-(intOf v).toNat)
  case atStart=>exact⟨0,by omega,rfl,HB.o,HX.o,fun y h=>by omega⟩
  obtain⟨z,hz,rfl,hb,hx,hzs⟩:=hrel
  replace HB:=Hd hb;replace HX:=Hd hx;have HZS:=Hd hzs;clear hb hx hzs
  by_cases hz4:z<4
  ·have j1:(0:Int)<=(z:Int):=by omega
   have j2:(z:Int)<4:=by omega
   have hix:=idxz s p hz4
   obtain⟨hm,a0,c0,hv,_⟩:=(HR.o.zone p z).form
   have HV:=Hd hv;rw[hv] at hix
   clear hv
   by_cases h40:((B.seat p).zs z).length<=40
   ·have t0:decide ((((B.seat p).zs z).length:Int)>40)=false:=decide_eq_false (by omega)
    have HN:Hid (∀y,y<z+1->((B.seat p).zs y).length<=40):=Hd (fun y hy=>by
     rcases Nat.lt_or_ge y z with h1|h1
     ·exact HZS.o y h1
     obtain rfl:y=z:=by omega
     exact h40)
    clear h40;go_wp2_with fail
    go_roundw
    case rel=>exact⟨z+1,by omega,by go_num,HB.o,HX.o,HN.o⟩
    case measure=>simp[intOf];omega
   have t0:decide ((((B.seat p).zs z).length:Int)>40)=true:=decide_eq_true (by omega);clear h40;go_wp2_with fail
   exact bodyPost_ret (v:= .bool false) (by simp[results,Tryz.results7,go_sem]) rfl (impF HB.o)
  obtain rfl:z=4:=by omega
  have HN:Hid (∀q z,q<p+1->z<4->((B.seat q).zs z).length<=40):=Hd (fun q z hq hz=>by
   rcases Nat.lt_or_ge q p with h1|h1
   ·exact HS.o q z h1 hz
   obtain rfl:q=p:=by omega
   exact HZS.o z hz)
  go_wp2_with fail
  go_roundw
  case rel=>exact⟨p+1,by omega,by go_num,HB.o,HX.o,HN.o⟩
  case measure=>simp[intOf];omega
 obtain rfl:p=2:=by omega
 obtain⟨sta,stn,stc,hst⟩:∃a n c,s.st.v= .slice a n c:=⟨_,_,_,rfl⟩
 obtain⟨qua,qun,quc,hqu⟩:∃a n c,s.qu.v= .slice a n c:=⟨_,_,_,rfl⟩
 have HST:=Hd hst;have HQU:=Hd hqu;have c29:wr.cell? ⟨w.heap.size,29,none⟩=some (.slice sta stn stc):=by rw[HX.o.cell 29,<-hst];rfl
 have c30:wr.cell? ⟨w.heap.size,30,none⟩=some (.slice qua qun quc):=by rw[HX.o.cell 30,<-hqu];rfl
 clear hst hqu hp2 hp
 go_upto_region 11 with fail
 obtain⟨wq,hwq⟩:∃W,W=wr.alloc (.cells #[.slice sta stn stc,.slice qua qun quc] 30):=⟨_,rfl⟩
 rw[<-hwq];have hqb:Below wr.heap.size wr wq:=by rw[hwq];exact(Below.refl _ _).alloc (Nat.le_refl _) _
 have hqr:Ro wq wr.heap.size #[s.st.v,s.qu.v] 30:=by rw[hwq,HST.o,HQU.o];exact Ro.new _ _ _
 obtain⟨n0,hn0⟩:∃n,n=wr.heap.size:=⟨_,rfl⟩
 rw[<-hn0] at hqr ⊢
 have HC:=Hd hqr;replace HX:=Hd (HX.o.below hqb);replace HB:=Hd (below_via HB.o hqb);clear hwq hqb hqr hn0 c29 c30
 go_loopw [31] (fun v wr=>SlI w s B n0 v wr) (fun v _=>2-(intOf v).toNat)
 case atStart=>exact⟨0,by omega,rfl,HB.o,HX.o,HC.o,fun j h=>by omega⟩
 obtain⟨i,hi,rfl,hb,hx,hc,hs⟩:=hrel
 replace HB:=Hd hb;replace HX:=Hd hx;replace HC:=Hd hc;have HSI:=Hd hs;clear hb hx hs
 by_cases hi2:i<2
 ·have i1:(0:Int)<=(i:Int):=by omega
  have i2:(i:Int)<2:=by omega
  obtain⟨l',hl',hrw,htg⟩:=HR.o.its i
  have HTG:=Hd htg;clear htg
  obtain⟨hm,a0,c0,hv,hf⟩:=hrw.form
  have hlen:l'.length=(Bd.its B i).length:=by rw[<-hl',List.length_map]
  rw[hlen] at hv hm hf
  have HLL:=Hd hl';have HLN:=Hd hlen;have HF:=Hd hf
  have ci:wr.cell? ⟨n0,i,none⟩=some (.slice a0 (Bd.its B i).length c0):=by
   rw[hc.cell i,<-hv]
   have:i=0\/i=1:=by omega
   rcases this with rfl|rfl<;>rfl
  obtain⟨L,hL⟩:∃L,Bd.its B i=L:=⟨_,rfl⟩
  rw[hL] at ci hm HLL HLN HF
  have HLE:=Hd hL;clear hv hf hl' hlen hrw hc hL
  by_cases h20:L.length<=20
  ·have t0:decide ((L.length:Int)>20)=false:=decide_eq_false (by omega)
   go_wp2_with fail
   clear ci t0
   go_loopw [8] (fun v wr=>SlK w s B n0 L v wr) (fun v _=>L.length-(intOf v).toNat)
   case atStart=>exact⟨0,by omega,rfl,HB.o,HX.o,HC.o,fun x h=>by simp at h⟩
   obtain⟨k,hk,rfl,hb,hx,hc,hs⟩:=hrel
   replace HB:=Hd hb;replace HX:=Hd hx;replace HC:=Hd hc;have HSK:=Hd hs;clear hx hc hs
   by_cases hkl:k<L.length
   ·obtain⟨b0,off,rfl,hlt,hc⟩:=HF.o (by omega)
    obtain⟨y,hy⟩:∃y,l'[k]? =some y:=⟨_,List.getElem?_eq_getElem (by have:=HLN.o;omega)⟩
    have hx:L[k]? =some y.1:=by rw[<-HLL.o,List.getElem?_map,hy];rfl
    have htw:=HTG.o y (List.mem_of_getElem? hy)
    obtain⟨x,⟨ta,tn,tc'⟩⟩:=y
    change Rw tc 2 w (.slice ta tn tc') x.tg at htw
    have etn:=htw.length;subst etn;have d4:wr.cell? ⟨b0,off+k*5+4,none⟩=some (.slice ta x.tg.length tc'):=by rw[Nat.add_assoc];exact(hb.cell (p:=⟨b0,off+(k*5+4),none⟩) hlt).trans (hc k _ hy 4 _ rfl)
    have hmt:x.tg.length<=9223372036854775807:=by have:=htw.max;unfold maxLen at this;omega
    have HXK:Hid (L[k]? =some x):=Hd hx;have k1:(0:Int)<=(k:Int):=by omega
    have k2:(k:Int)<(L.length:Int):=by omega
    clear hc hy hx hb htw
    by_cases h6:x.tg.length<=6
    ·have t1:decide ((x.tg.length:Int)>6)=false:=decide_eq_false (by omega)
     have HK2:Hid (∀y∈L.take (k+1),y.tg.length<=6):=Hd (fun y hy=>by
      rw[List.take_add_one,HXK.o] at hy
      rcases List.mem_append.1 hy with h1|h1
      ·exact HSK.o y h1
      simp at h1;subst h1;exact h6)
     clear h6;go_wp2_with fail
     go_roundw
     case rel=>exact⟨k+1,by omega,by go_num,HB.o,HX.o,HC.o,HK2.o⟩
     case measure=>simp[intOf];omega
    have t1:decide ((x.tg.length:Int)>6)=true:=decide_eq_true (by omega);clear h6;go_wp2_with fail
    exact bodyPost_ret (v:= .bool false) (by simp[results,Tryz.results7,go_sem]) rfl (impF HB.o)
   have hke:k=L.length:=by omega
   have HN:Hid (∀j,j<i+1->(Bd.its B j).length<=20/\∀x∈Bd.its B j,x.tg.length<=6):=Hd (fun j hj=>by
    rcases Nat.lt_or_ge j i with h1|h1
    ·exact HSI.o j h1
    obtain rfl:j=i:=by omega
    have h2:=HSK.o;rw[hke,List.take_length] at h2
    rw[HLE.o]
    exact⟨h20,h2⟩)
   clear hke hb;go_wp2_with fail
   go_roundw
   case rel=>exact⟨i+1,by omega,by go_num,HB.o,HX.o,HC.o,HN.o⟩
   case measure=>simp[intOf];omega
  have t0:decide ((L.length:Int)>20)=true:=decide_eq_true (by omega);clear h20;go_wp2_with fail
  exact bodyPost_ret (v:= .bool false) (by simp[results,Tryz.results7,go_sem]) rfl (impF HB.o)
 obtain rfl:i=2:=by omega
 have c0:=HC0.o wr HX.o;have c31:=HC31.o wr HX.o;have c32:=HC32.o wr HX.o;have HT:Hid (B.ob.length<=30->B.att.length<=30->B.bl.length<=30->B.Tiny):=Hd (fun h1 h2 h3=>⟨HS.o,(HSI.o 0 (by omega)).1,(HSI.o 1 (by omega)).1,(HSI.o 0 (by omega)).2,(HSI.o 1 (by omega)).2,h1,h2,h3⟩);clear hc hi hi2
 by_cases h1:B.ob.length<=30
 ·have t0:decide ((B.ob.length:Int)<=30)=true:=decide_eq_true (by omega)
  by_cases h2:B.att.length<=30
  ·have t1:decide ((B.att.length:Int)<=30)=true:=decide_eq_true (by omega)
   obtain⟨r,hr⟩:∃r,decide ((B.bl.length:Int)<=30)=r:=⟨_,rfl⟩
   have HRR:Hid (r=true->B.Tiny):=Hd (fun h=>HT.o h1 h2 (by rw[h] at hr;have:=of_decide_eq_true hr;omega));clear h1 h2;go_wp2_with fail
   exact bodyPost_ret (v:= .bool r) (by simp[results,Tryz.results7,go_sem]) rfl ⟨⟨r,rfl,HRR.o⟩,HB.o⟩
  have t1:decide ((B.att.length:Int)<=30)=false:=decide_eq_false (by omega);clear h1 h2;go_wp2_with fail
  exact bodyPost_ret (v:= .bool false) (by simp[results,Tryz.results7,go_sem]) rfl (impF HB.o)
 have t0:decide ((B.ob.length:Int)<=30)=false:=decide_eq_false (by omega);clear h1;go_wp2_with fail
 exact bodyPost_ret (v:= .bool false) (by simp[results,Tryz.results7,go_sem]) rfl (impF HB.o)
end Go.Proofs.YtpbepnpnpopmfaaGreat
