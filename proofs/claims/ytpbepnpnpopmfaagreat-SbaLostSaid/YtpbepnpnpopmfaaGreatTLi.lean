/- Cards that are few and light, by the law. -/
import Derived.Test.YtpbepnpnpopmfaaGreatTCe
import Derived.Deep.DeepCutAuto
import Derived.LoopTactic
import Derived.Deep.MidRow
open Go.RowKit Go.Proofs.YtpbepnpnpopmfaaGreat
set_option maxRecDepth 100000
set_option maxHeartbeats 4000000
namespace Go.Proofs.YtpbepnpnpopmfaaGreat
open Plain
set_option linter.unusedVariables false
set_option linter.unusedSimpArgs false

def okX(x:Cd×List (Int×Nat)):Prop:=x.1.el<=5/\x.2.length<=3/\∀t∈x.2,t.2<=5
def LiL(w:World)(cs:List (Cd×List (Int×Nat)))(i:Value)(wr:World):Prop:=∃k:Nat,k<=cs.length/\k<=13/\i= .int .i64 k/\(∀(j:Nat) x,j<k->cs[j]? =some x->okX x)/\Below w.heap.size w wr
def LiK(w:World)(ws:List (Int×Nat))(i:Value)(wr:World):Prop:=∃m:Nat,m<=ws.length/\i= .int .i64 m/\(∀(j:Nat) t,j<m->ws[j]? =some t->t.2<=5)/\Below w.heap.size w wr
def LiA(w:World)(cs:List (Cd×List (Int×Nat)))(e:Ending)(w':World):Prop:=(∃r,e= .returned (.bool r)/\(r=true->Lt cs))/\Below w.heap.size w w'
theorem LiA.no{w:World}{cs:List (Cd×List (Int×Nat))}{w':World}(h:Below w.heap.size w w'):LiA w cs (.returned (.bool false)) w':=⟨⟨false,rfl,(fun h=>by cases h)⟩,h⟩
theorem llight(v:Value)(cs:List (Cd×List (Int×Nat)))(w:World)(h:CsR w v cs):Calls Tryz.prog 6 #[v] w (LiA w cs):=by
 have HS:=Hd h
 obtain⟨hm,va,vc,rfl,hf⟩:=h.row.form
 rw[List.length_map] at hm ⊢
 have HF:=Hd hf;clear h hf;go_enter Tryz.func6,Tryz.ntmps6;go_wp2_with fail
 go_loopw [3] (fun i wr=>LiL w cs i wr) (fun i _=>13-(intOf i).toNat)
 case atStart=>exact⟨0,by omega,by omega,rfl,(fun j x h=>by omega),Below.refl _ _⟩
 obtain⟨k,hk,hk13,rfl,hd,hb⟩:=hrel
 have HD:=Hd hd;have HB:=Hd hb;clear hd hb
 by_cases hkl:k<cs.length
 case neg=>
  obtain rfl:k=cs.length:=by omega
  have t1:decide ((cs.length:Int)<(cs.length:Int))=false:=decide_eq_false (by omega);go_wp2_with fail
  go_returns
  exact⟨⟨_,rfl,fun h=>⟨by simp at h;omega,fun x hx=>by
   obtain⟨j,hj⟩:=List.getElem?_of_mem hx
   exact HD.o j x (List.getElem?_eq_some_iff.1 hj).1 hj⟩⟩,HB.o⟩
 case pos=>
 have t1:decide ((k:Int)<(cs.length:Int))=true:=decide_eq_true (by omega)
 by_cases hk3:k<13
 case neg=>
  have t2:decide ((k:Int)<13)=false:=decide_eq_false (by omega);have t3:decide ((cs.length:Int)<=12)=false:=decide_eq_false (by omega);have t3':decide (cs.length<=12)=false:=decide_eq_false (by omega);go_wp2_with fail
  go_returns;exact LiA.no HB.o
 case pos=>
 have t2:decide ((k:Int)<13)=true:=decide_eq_true (by omega)
 obtain⟨x,hx⟩:∃x,cs[k]? =some x:=⟨_,List.getElem?_eq_getElem hkl⟩
 obtain⟨b,off,rfl,hlb,hc⟩:=HF.o (by rw[List.length_map];omega)
 obtain⟨⟨c,ws⟩,hX⟩:∃y,x=y:=⟨_,rfl⟩
 subst hX;have hxm:(cs.map Prod.fst)[k]? =some c:=by rw[List.getElem?_map,hx];rfl
 obtain⟨_,ts,hts,htw,_⟩:=HS.o.each _ (List.mem_of_getElem? hx)
 simp only at hts htw
 have hwl:ts.length=ws.length:=by rw[<-htw,List.length_map]
 have htl:c.tl=ws.length:=by rw[<-hwl];exact Rw.length hts
 rw[htl] at hts
 have d11:wr.cell? ⟨b,off+k*14+11,none⟩=some (.slice c.ea c.el c.ec):=(HB.o.cell (p:=⟨b,off+k*14+11,none⟩) hlb).trans ((Nat.add_assoc off (k*14) 11).symm▸hc k c hxm 11 _ rfl);have d12:wr.cell? ⟨b,off+k*14+12,none⟩=some (.slice c.ta ws.length c.tc):=(HB.o.cell (p:=⟨b,off+k*14+12,none⟩) hlb).trans (by rw[<-htl];exact(Nat.add_assoc off (k*14) 12).symm▸hc k c hxm 12 _ rfl);have gb:b<wr.heap.size:=Nat.lt_of_lt_of_le hlb HB.o.size;have HTS:=Hd hts;have HTW:=Hd htw;have HX:=Hd hx;have HWL:=Hd hwl;have i1:(0:Int)<=(k:Int):=by omega
 have i2:(k:Int)<(cs.length:Int):=by omega
 clear hts htw hwl htl hc hx hxm hlb
 by_cases he5:c.el<=5
 case neg=>
  have t4:decide ((c.el:Int)>5)=true:=decide_eq_true (by omega);have t4':decide ((5:Int)<(c.el:Int))=true:=decide_eq_true (by omega);go_wp2_with fail
  go_returns;exact LiA.no HB.o
 case pos=>
 have t4:decide ((c.el:Int)>5)=false:=decide_eq_false (by omega);have t4':decide ((5:Int)<(c.el:Int))=false:=decide_eq_false (by omega)
 by_cases hw3:ws.length<=3
 case neg=>
  have t5:decide ((ws.length:Int)>3)=true:=decide_eq_true (by omega);have t5':decide ((3:Int)<(ws.length:Int))=true:=decide_eq_true (by omega);go_wp2_with fail
  go_returns;exact LiA.no HB.o
 case pos=>
 have t5:decide ((ws.length:Int)>3)=false:=decide_eq_false (by omega);have t5':decide ((3:Int)<(ws.length:Int))=false:=decide_eq_false (by omega)
 obtain⟨wo,rfl⟩:∃W,W=wr:=⟨_,rfl⟩
 go_wp2_with fail
 go_loopw [4] (fun i w2=>LiK wo ws i w2) (fun i _=>ws.length-(intOf i).toNat)
 case atStart=>exact⟨0,by omega,rfl,(fun j t h=>by omega),Below.refl _ _⟩
 obtain⟨m,hm,rfl,hd2,hb2⟩:=hrel
 have HD2:=Hd hd2;have HB2:=Hd hb2;have e12:wr.cell? ⟨b,off+k*14+12,none⟩=some (.slice c.ta ws.length c.tc):=(hb2.cell (p:=⟨b,off+k*14+12,none⟩) gb).trans d12;clear hd2 hb2 d11 d12
 by_cases hml:m<ws.length
 case neg=>
  obtain rfl:m=ws.length:=by omega
  have t6:decide ((ws.length:Int)<(ws.length:Int))=false:=decide_eq_false (by omega);go_wp2_with fail
  go_roundw
  case rel=>exact⟨k+1,by omega,by omega,by go_num,(fun j y hj hy=>by
   rcases Nat.lt_or_ge j k with h|h
   ·exact HD.o j y h hy
   obtain rfl:j=k:=by omega
   have:=HX.o
   rw[hy] at this
   obtain rfl:=Option.some.inj this
   exact⟨he5,hw3,fun t ht=>by
    obtain⟨q,hq⟩:=List.getElem?_of_mem ht
    exact HD2.o q t (List.getElem?_eq_some_iff.1 hq).1 hq⟩),below_via HB.o HB2.o⟩
  case measure=>simp[intOf];omega
 case pos=>
 have t6:decide ((m:Int)<(ws.length:Int))=true:=decide_eq_true (by omega)
 obtain⟨y,hy⟩:∃y,ts[m]? =some y:=⟨_,List.getElem?_eq_getElem (by have:=HWL.o;omega)⟩
 obtain⟨_,tb,tcap,hv,hf⟩:=HTS.o.form
 simp only[Value.slice.injEq] at hv
 obtain⟨htb,hq,htc⟩:=hv
 clear hq
 obtain⟨g,og,hta,hlt,hc⟩:=hf (by have:=HWL.o;omega)
 obtain⟨q,⟨sa,sn,sc⟩⟩:=y
 have hwk:ws[m]? =some (q,sn):=by rw[<-HTW.o,List.getElem?_map,hy];rfl
 rw[hta] at htb
 rw[htb] at e12
 have d1:wr.cell? ⟨g,og+m*2+1,none⟩=some (.slice sa sn sc):=((below_via HB.o HB2.o).cell (p:=⟨g,og+m*2+1,none⟩) hlt).trans ((Nat.add_assoc og (m*2) 1).symm▸hc m _ hy 1 _ rfl);have HWK:=Hd hwk;have i3:(0:Int)<=(m:Int):=by omega
 have i4:(m:Int)<(ws.length:Int):=by omega
 clear hf hc hy hwk hta htb htc hlt
 by_cases hs5:sn<=5
 case neg=>
  have t7:decide ((sn:Int)>5)=true:=decide_eq_true (by omega);have t7':decide ((5:Int)<(sn:Int))=true:=decide_eq_true (by omega);go_wp2_with fail
  go_returns;exact LiA.no (below_via HB.o HB2.o)
 case pos=>
 have t7:decide ((sn:Int)>5)=false:=decide_eq_false (by omega);have t7':decide ((5:Int)<(sn:Int))=false:=decide_eq_false (by omega);go_wp2_with fail
 go_roundw
 case rel=>exact⟨m+1,by omega,by go_num,(fun j y hj hy=>by
  rcases Nat.lt_or_ge j m with h|h
  ·exact HD2.o j y h hy
  obtain rfl:j=m:=by omega
  have:=HWK.o
  rw[hy] at this
  rw[Option.some.inj this];exact hs5),HB2.o⟩
 case measure=>simp[intOf];omega
end Go.Proofs.YtpbepnpnpopmfaaGreat
