/- Boards that are small; changing the memory of a board. -/
import Derived.Test.YtgkgbpapfjjkcaaBRg
import Derived.Test.YtgkgbpapfjjkcaaBOw
import Derived.Test.YtgkgbpapfjjkcaaBCr
import Derived.Deep.DeepCutAuto
import Derived.LoopTactic
import Derived.Deep.MidRow
namespace Go.Proofs.Ytgkgbpapfjjkcaa
open Go.RowKit Plain
set_option linter.unusedVariables false
set_option linter.unusedSimpArgs false

/-- if it says so, it is so -/
def ImpB(P:Prop)(w:World)(e:Ending)(w':World):Prop:=(∃r,e= .returned (.bool r)∧(r=true→P))∧Below w.heap.size w w'
theorem impF{P:Prop}{w w':World}(hb:Below w.heap.size w w'):ImpB P w (.returned (.bool false)) w':=⟨⟨false,rfl,fun h=>by cases h⟩,hb⟩
/-- how much there is at most -/
structure Plain.Bd.Tiny(B:Bd):Prop where
 zs:∀(p z:Nat),p<2→z<4→((B.seat p).zs z).length≤40
 st:B.st.length≤20
 qu:B.qu.length≤20
 stt:∀x∈B.st,x.tg.length≤6
 qut:∀x∈B.qu,x.tg.length≤6
 ob:B.ob.length≤30
 att:B.att.length≤30
 bl:B.bl.length≤30
def SlP(w:World)(s:Bs)(B:Bd)(v:Value)(wr:World):Prop:=∃p:Nat,p≤2∧v= .int .i64 p∧Below w.heap.size w wr∧Bx wr w.heap.size s B∧∀q z,q<p→z<4→((B.seat q).zs z).length≤40
def SlZ(w:World)(s:Bs)(B:Bd)(p:Nat)(v:Value)(wr:World):Prop:=∃z:Nat,z≤4∧v= .int .i64 z∧Below w.heap.size w wr∧Bx wr w.heap.size s B∧∀y,y<z→((B.seat p).zs y).length≤40
def Bd.its(B:Bd)(i:Nat):List It:=if i=0 then B.st else B.qu
def Bs.its(s:Bs)(i:Nat):Sl:=if i=0 then s.st else s.qu
def SlI(w:World)(s:Bs)(B:Bd)(C:Nat)(v:Value)(wr:World):Prop:=∃i:Nat,i≤2∧v= .int .i64 i∧Below w.heap.size w wr∧Bx wr w.heap.size s B∧Ro wr C #[s.st.v,s.qu.v] 30∧∀j,j<i→(Bd.its B j).length≤20∧∀x∈Bd.its B j,x.tg.length≤6
def SlK(w:World)(s:Bs)(B:Bd)(C:Nat)(l:List It)(v:Value)(wr:World):Prop:=∃k:Nat,k≤l.length∧v= .int .i64 k∧Below w.heap.size w wr∧Bx wr w.heap.size s B∧Ro wr C #[s.st.v,s.qu.v] 30∧∀x∈l.take k,x.tg.length≤6
theorem BdR.its{w:World}{s:Bs}{B:Bd}(h:BdR w s B)(i:Nat):ItR w (Bs.its s i).v (Bd.its B i):=by
 unfold Bs.its Bd.its
 split
 ·exact h.st
 ·exact h.qu
theorem ItR.len{w:World}{a:Option Addr}{n c:Nat}{l:List It}(h:ItR w (.slice a n c) l):n=l.length:=by
 obtain⟨l',rfl,h1,_⟩:=h
 rw[List.length_map];exact h1.length
set_option maxRecDepth 100000 in
set_option maxHeartbeats 4000000 in
theorem bsmall(s:Bs)(B:Bd)(w:World)(h:BdR w s B):Calls Try.prog 9 #[bv s B] w (ImpB B.Tiny w):=by
 have HR:=Lib.hid h
 obtain⟨hmo,ao,co,hvo,_⟩:=h.ob.form
 obtain⟨hma,aa,ca,hva,_⟩:=h.att.form
 obtain⟨hmb,ab,cb,hvb,_⟩:=h.bl.form
 have HC0:Hid (∀W,Bx W w.heap.size s B→W.cell? ⟨w.heap.size,0,none⟩=some (.slice ao B.ob.length co)):=Lib.hid (fun W h=>by rw[h.cell 0,←hvo];rfl);have HC31:Hid (∀W,Bx W w.heap.size s B→W.cell? ⟨w.heap.size,31,none⟩=some (.slice aa B.att.length ca)):=Lib.hid (fun W h=>by rw[h.cell 31,←hva];rfl);have HC32:Hid (∀W,Bx W w.heap.size s B→W.cell? ⟨w.heap.size,32,none⟩=some (.slice ab B.bl.length cb)):=Lib.hid (fun W h=>by rw[h.cell 32,←hvb];rfl);clear h hvo hva hvb;go_enter Try.func9,Try.ntmps9
 go_upto_region 1 with fail
 change Code.wp Try.prog _ _ _ (w.alloc (.cells (bcells s B) 34))
 obtain⟨wz,hwz⟩:∃W,W=w.alloc (.cells (bcells s B) 34):=⟨_,rfl⟩
 have HX:Hid (Bx wz w.heap.size s B):=Lib.hid (by rw[hwz];exact heap_alloc_new _ _);have HBZ:Hid (Below w.heap.size w wz):=Lib.hid (by rw[hwz];exact(Below.refl _ _).alloc (Nat.le_refl _) _);rw[←hwz];clear hwz;have HB:=HBZ;clear HBZ;go_wp2_with fail
 go_loopw [3] (fun v wr=>SlP w s B v wr) (fun v _=>2-(intOf v).toNat)
 case atStart=>exact⟨0,by omega,rfl,HB.out,HX.out,fun q z h=>by omega⟩
 case round=>
  obtain⟨p,hp,rfl,hb,hx,hs⟩:=hrel
  replace HB:=Lib.hid hb;replace HX:=Lib.hid hx;have HS:=Lib.hid hs;clear hb hx hs
  by_cases hp2:p<2
  ·have i1:(0:Int)≤(p:Int):=by omega
   have i2:(p:Int)<2:=by omega
   go_wp2_with (refine wpList_load_mid rfl 28 _ rfl w.heap.size (1+p*14) rfl (seL (s.zl p 0) (s.zl p 1) (s.zl p 2) (s.zl p 3) (B.seat p)) _ (HX.out.seat hp2) Try.underlying28 rfl rfl ?_)
   with_reducible refine(zonesV _ _ _ _ _ _).mono ?_
   rintro e w2 ⟨rfl,hb2⟩;replace HX:=Lib.hid (HX.out.below hb2);replace HB:=Lib.hid (below_via HB.out hb2);clear hb2;go_wp2_with fail
   go_loopw [18] (fun v wr=>SlZ w s B p v wr) (fun v _=>4-(intOf v).toNat)
   case atStart=>exact⟨0,by omega,rfl,HB.out,HX.out,fun y h=>by omega⟩
   case round=>
    obtain⟨z,hz,rfl,hb,hx,hzs⟩:=hrel
    replace HB:=Lib.hid hb;replace HX:=Lib.hid hx;have HZS:=Lib.hid hzs;clear hb hx hzs
    by_cases hz4:z<4
    ·have j1:(0:Int)≤(z:Int):=by omega
     have j2:(z:Int)<4:=by omega
     have hix:=idxz s p hz4
     obtain⟨hm,a0,c0,hv,_⟩:=(HR.out.zone p z).form
     have HV:=Lib.hid hv;rw[hv] at hix
     clear hv
     by_cases h40:((B.seat p).zs z).length≤40
     ·have t0:decide ((((B.seat p).zs z).length:Int)>40)=false:=decide_eq_false (by omega)
      have HN:Hid (∀y,y<z+1→((B.seat p).zs y).length≤40):=Lib.hid (fun y hy=>by
       rcases Nat.lt_or_ge y z with h1|h1
       ·exact HZS.out y h1
       ·obtain rfl:y=z:=by omega
        exact h40)
      clear h40;go_wp2_with fail
      go_roundw
      case rel=>exact⟨z+1,by omega,by go_num,HB.out,HX.out,HN.out⟩
      case measure=>simp[intOf];omega
     ·have t0:decide ((((B.seat p).zs z).length:Int)>40)=true:=decide_eq_true (by omega)
      clear h40;go_wp2_with fail
      exact bodyPost_ret (v:= .bool false) (by simp[results,Try.results9,go_sem]) rfl (impF HB.out)
    ·obtain rfl:z=4:=by omega
     have HN:Hid (∀q z,q<p+1→z<4→((B.seat q).zs z).length≤40):=Lib.hid (fun q z hq hz=>by
      rcases Nat.lt_or_ge q p with h1|h1
      ·exact HS.out q z h1 hz
      ·obtain rfl:q=p:=by omega
       exact HZS.out z hz)
     go_wp2_with fail
     go_roundw
     case rel=>exact⟨p+1,by omega,by go_num,HB.out,HX.out,HN.out⟩
     case measure=>simp[intOf];omega
  ·obtain rfl:p=2:=by omega
   obtain⟨sta,stn,stc,hst⟩:∃a n c,s.st.v= .slice a n c:=⟨_,_,_,rfl⟩
   obtain⟨qua,qun,quc,hqu⟩:∃a n c,s.qu.v= .slice a n c:=⟨_,_,_,rfl⟩
   have HST:=Lib.hid hst;have HQU:=Lib.hid hqu;have c29:wr.cell? ⟨w.heap.size,29,none⟩=some (.slice sta stn stc):=by rw[HX.out.cell 29,←hst];rfl
   have c30:wr.cell? ⟨w.heap.size,30,none⟩=some (.slice qua qun quc):=by rw[HX.out.cell 30,←hqu];rfl
   clear hst hqu hp2 hp
   go_upto_region 11 with fail
   obtain⟨wq,hwq⟩:∃W,W=wr.alloc (.cells #[.slice sta stn stc,.slice qua qun quc] 30):=⟨_,rfl⟩
   rw[←hwq];have hqb:Below wr.heap.size wr wq:=by rw[hwq];exact(Below.refl _ _).alloc (Nat.le_refl _) _
   have hqr:Ro wq wr.heap.size #[s.st.v,s.qu.v] 30:=by rw[hwq,HST.out,HQU.out];exact Ro.new _ _ _
   obtain⟨n0,hn0⟩:∃n,n=wr.heap.size:=⟨_,rfl⟩
   rw[←hn0] at hqr ⊢
   have HC:=Lib.hid hqr;replace HX:=Lib.hid (HX.out.below hqb);replace HB:=Lib.hid (below_via HB.out hqb);clear hwq hqb hqr hn0 c29 c30
   go_loopw [31] (fun v wr=>SlI w s B n0 v wr) (fun v _=>2-(intOf v).toNat)
   case atStart=>exact⟨0,by omega,rfl,HB.out,HX.out,HC.out,fun j h=>by omega⟩
   case round=>
    obtain⟨i,hi,rfl,hb,hx,hc,hs⟩:=hrel
    replace HB:=Lib.hid hb;replace HX:=Lib.hid hx;replace HC:=Lib.hid hc;have HSI:=Lib.hid hs;clear hb hx hs
    by_cases hi2:i<2
    ·have i1:(0:Int)≤(i:Int):=by omega
     have i2:(i:Int)<2:=by omega
     obtain⟨l',hl',hrw,htg⟩:=HR.out.its i
     have HTG:=Lib.hid htg;clear htg
     obtain⟨hm,a0,c0,hv,hf⟩:=hrw.form
     have hlen:l'.length=(Bd.its B i).length:=by rw[←hl',List.length_map]
     rw[hlen] at hv hm hf
     have HLL:=Lib.hid hl';have HLN:=Lib.hid hlen;have HF:=Lib.hid hf
     have ci:wr.cell? ⟨n0,i,none⟩=some (.slice a0 (Bd.its B i).length c0):=by
      rw[hc.cell i,←hv]
      have:i=0∨i=1:=by omega
      rcases this with rfl|rfl<;>rfl
     obtain⟨L,hL⟩:∃L,Bd.its B i=L:=⟨_,rfl⟩
     rw[hL] at ci hm HLL HLN HF
     have HLE:=Lib.hid hL;clear hv hf hl' hlen hrw hc hL
     by_cases h20:L.length≤20
     ·have t0:decide ((L.length:Int)>20)=false:=decide_eq_false (by omega)
      go_wp2_with fail
      clear ci t0
      go_loopw [8] (fun v wr=>SlK w s B n0 L v wr) (fun v _=>L.length-(intOf v).toNat)
      case atStart=>exact⟨0,by omega,rfl,HB.out,HX.out,HC.out,fun x h=>by simp at h⟩
      case round=>
       obtain⟨k,hk,rfl,hb,hx,hc,hs⟩:=hrel
       replace HB:=Lib.hid hb;replace HX:=Lib.hid hx;replace HC:=Lib.hid hc;have HSK:=Lib.hid hs;clear hx hc hs
       by_cases hkl:k<L.length
       ·obtain⟨b0,off,rfl,hlt,hc⟩:=HF.out (by omega)
        obtain⟨y,hy⟩:∃y,l'[k]? =some y:=⟨_,List.getElem?_eq_getElem (by have:=HLN.out;omega)⟩
        have hx:L[k]? =some y.1:=by rw[←HLL.out,List.getElem?_map,hy];rfl
        have htw:=HTG.out y (List.mem_of_getElem? hy)
        obtain⟨x,⟨ta,tn,tc'⟩⟩:=y
        change Rw tc 2 w (.slice ta tn tc') x.tg at htw
        have etn:=htw.length;subst etn;have d4:wr.cell? ⟨b0,off+k*5+4,none⟩=some (.slice ta x.tg.length tc'):=by rw[Nat.add_assoc];exact(hb.cell (p:=⟨b0,off+(k*5+4),none⟩) hlt).trans (hc k _ hy 4 _ rfl)
        have hmt:x.tg.length≤9223372036854775807:=by have:=htw.max;unfold maxLen at this;omega
        have HXK:Hid (L[k]? =some x):=Lib.hid hx;have k1:(0:Int)≤(k:Int):=by omega
        have k2:(k:Int)<(L.length:Int):=by omega
        clear hc hy hx hb htw
        by_cases h6:x.tg.length≤6
        ·have t1:decide ((x.tg.length:Int)>6)=false:=decide_eq_false (by omega)
         have HK2:Hid (∀y∈L.take (k+1),y.tg.length≤6):=Lib.hid (fun y hy=>by
          rw[List.take_add_one,HXK.out] at hy
          rcases List.mem_append.1 hy with h1|h1
          ·exact HSK.out y h1
          ·simp at h1;subst h1;exact h6)
         clear h6;go_wp2_with fail
         go_roundw
         case rel=>exact⟨k+1,by omega,by go_num,HB.out,HX.out,HC.out,HK2.out⟩
         case measure=>simp[intOf];omega
        ·have t1:decide ((x.tg.length:Int)>6)=true:=decide_eq_true (by omega)
         clear h6;go_wp2_with fail
         exact bodyPost_ret (v:= .bool false) (by simp[results,Try.results9,go_sem]) rfl (impF HB.out)
       ·have hke:k=L.length:=by omega
        have HN:Hid (∀j,j<i+1→(Bd.its B j).length≤20∧∀x∈Bd.its B j,x.tg.length≤6):=Lib.hid (fun j hj=>by
         rcases Nat.lt_or_ge j i with h1|h1
         ·exact HSI.out j h1
         ·obtain rfl:j=i:=by omega
          have h2:=HSK.out;rw[hke,List.take_length] at h2
          rw[HLE.out]
          exact⟨h20,h2⟩)
        clear hke hb;go_wp2_with fail
        go_roundw
        case rel=>exact⟨i+1,by omega,by go_num,HB.out,HX.out,HC.out,HN.out⟩
        case measure=>simp[intOf];omega
     ·have t0:decide ((L.length:Int)>20)=true:=decide_eq_true (by omega)
      clear h20;go_wp2_with fail
      exact bodyPost_ret (v:= .bool false) (by simp[results,Try.results9,go_sem]) rfl (impF HB.out)
    ·obtain rfl:i=2:=by omega
     have c0:=HC0.out wr HX.out;have c31:=HC31.out wr HX.out;have c32:=HC32.out wr HX.out;have HT:Hid (B.ob.length≤30→B.att.length≤30→B.bl.length≤30→B.Tiny):=Lib.hid (fun h1 h2 h3=>⟨HS.out,(HSI.out 0 (by omega)).1,(HSI.out 1 (by omega)).1,(HSI.out 0 (by omega)).2,(HSI.out 1 (by omega)).2,h1,h2,h3⟩);clear hc hi hi2
     by_cases h1:B.ob.length≤30
     ·have t0:decide ((B.ob.length:Int)≤30)=true:=decide_eq_true (by omega)
      by_cases h2:B.att.length≤30
      ·have t1:decide ((B.att.length:Int)≤30)=true:=decide_eq_true (by omega)
       obtain⟨r,hr⟩:∃r,decide ((B.bl.length:Int)≤30)=r:=⟨_,rfl⟩
       have HRR:Hid (r=true→B.Tiny):=Lib.hid (fun h=>HT.out h1 h2 (by rw[h] at hr;have:=of_decide_eq_true hr;omega));clear h1 h2;go_wp2_with fail
       exact bodyPost_ret (v:= .bool r) (by simp[results,Try.results9,go_sem]) rfl ⟨⟨r,rfl,HRR.out⟩,HB.out⟩
      ·have t1:decide ((B.att.length:Int)≤30)=false:=decide_eq_false (by omega)
       clear h1 h2;go_wp2_with fail
       exact bodyPost_ret (v:= .bool false) (by simp[results,Try.results9,go_sem]) rfl (impF HB.out)
     ·have t0:decide ((B.ob.length:Int)≤30)=false:=decide_eq_false (by omega)
      clear h1;go_wp2_with fail
      exact bodyPost_ret (v:= .bool false) (by simp[results,Try.results9,go_sem]) rfl (impF HB.out)
end Go.Proofs.Ytgkgbpapfjjkcaa
