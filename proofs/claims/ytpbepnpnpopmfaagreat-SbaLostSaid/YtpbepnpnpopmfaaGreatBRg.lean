/- A board in its block: its seats, and all of it. In how many places something is, by the reference. -/
import Derived.Test.YtpbepnpnpopmfaaGreatBOw
import Derived.Test.YtpbepnpnpopmfaaGreatBPg
import Derived.Deep.DeepCutAuto
import Derived.LoopTactic
import Derived.Deep.MidRow
import Derived.Test.YtpbepnpnpopmfaaGreatBRf
open Go.RowKit Go.Proofs.YtpbepnpnpopmfaaGreat
set_option maxRecDepth 100000
set_option maxHeartbeats 4000000
namespace Go.Proofs.YtpbepnpnpopmfaaGreat
open Plain
set_option linter.unusedVariables false
set_option linter.unusedSimpArgs false

def seL(l h f g:Sl)(S:Se):List Value:=[.int .i64 S.li,.int .i64 S.p0,.int .i64 S.p1,.int .i64 S.p2,.int .i64 S.p3,l.v,h.v,f.v,g.v,.bool S.em,.bool S.py,.bool S.kp,.int .i64 S.mu,.int .i64 S.ac]
theorem Bx.seat{w:World}{P:Nat}{s:Bs}{B:Bd}(h:Bx w P s B){p:Nat}(hp:p<2):w.rangeAt P (1+p*14) (seL (s.zl p 0) (s.zl p 1) (s.zl p 2) (s.zl p 3) (B.seat p)):=by
 have:p=0\/p=1:=by omega
 rcases this with rfl|rfl
 ·exact World.rangeAt_of_block h 1 14
 exact World.rangeAt_of_block h 15 14
theorem Bx.all{w:World}{P:Nat}{s:Bs}{B:Bd}(h:Bx w P s B):w.rangeAt P 0 (bcells s B).toList:=fun j v hv=>by
 rw[Nat.zero_add,h.cell j,<-Array.getElem?_toList];exact hv
theorem wpList_load_bx{ops:Array Oper}{rest:List Oper}{op:Oper}{a:Act}{w:World}{Q:Exit->Act->World->Prop}{P:Nat}{s:Bs}{B:Bd}(x:Operand)(ho:op.op= .load 34 x)(hx:a.eval x= .pointer (some ⟨P,0,none⟩))(h:Bx w P s B)(hw:Region.wanted op (yielded ops a.tmps)=true)
  (hK:wpList Tryz.prog ops Q rest (a.put op.dst (bv s B)) w):wpList Tryz.prog ops Q (op::rest) a w:=by
 unfold wpList;rw[if_pos hw];exact .inl (wp_load_mid 34 x ho P 0 hx (bcells s B).toList _ (Bx.all h) Tryz.underlying34 rfl (by kernel_rfl) (by rw[Array.toArray_toList];exact hK))
theorem obj_at{W:World}{P:Nat}{s:Bs}{B:Bd}{k:Nat}{x:Ob}(hx:Bx W P s B)(hr:BdR W s B)(h:B.ob[k]? =some x):∃b o c,W.cell? ⟨P,0,none⟩=some (.slice (some ⟨b,o,none⟩) B.ob.length c)/\b<W.heap.size/\W.rangeAt b (o+k*12) (oc x):=by
 have hl:k<B.ob.length:=(List.getElem?_eq_some_iff.1 h).1
 obtain⟨_,a,c,hv,hc⟩:=hr.ob.form
 obtain⟨b,o,rfl,hb,hc⟩:=hc (by omega)
 refine⟨b,o,c,by rw[hx.cell 0,<-hv];rfl,hb,fun j u hu=> ?_⟩
 rw[Nat.add_assoc];exact hc k x h j u hu
theorem obs_len{W:World}{P:Nat}{s:Bs}{B:Bd}(hx:Bx W P s B)(hr:BdR W s B):∃a c,W.cell? ⟨P,0,none⟩=some (.slice a B.ob.length c)/\Rw oc 12 W (.slice a B.ob.length c) B.ob:=by
 obtain⟨_,a,c,hv,_⟩:=hr.ob.form
 exact⟨a,c,by rw[hx.cell 0,<-hv];rfl,hv▸hr.ob⟩
end Go.Proofs.YtpbepnpnpopmfaaGreat
namespace Go.Proofs.YtpbepnpnpopmfaaGreat
open Plain
set_option linter.unusedVariables false
set_option linter.unusedSimpArgs false

theorem zonesV(l h f g:Sl)(S:Se)(w:World):Calls Tryz.prog 22 #[.agg (seL l h f g S).toArray] w fun e w' =>e= .returned (.agg #[l.v,h.v,f.v,g.v])/\Below w.heap.size w w':=by
 obtain⟨la,ln,lc⟩:=l
 obtain⟨ha,hn,hc⟩:=h
 obtain⟨fa,fn,fc⟩:=f
 obtain⟨ga,gn,gc⟩:=g
 exact zones S w
theorem idxz(s:Bs)(p:Nat){z:Nat}(h:z<4)(w:World):(Instr.index 68 (.agg #[(s.zl p 0).v,(s.zl p 1).v,(s.zl p 2).v,(s.zl p 3).v]) (.int .i64 (z:Nat))).run Tryz.prog w= .ok (s.zl p z).v w:=by
 have:z=0\/z=1\/z=2\/z=3:=by omega
 rcases this with rfl|rfl|rfl|rfl
 ·have e:(Instr.index 68 (.agg #[(s.zl p 0).v,(s.zl p 1).v,(s.zl p 2).v,(s.zl p 3).v]) (.int .i64 0)).run Tryz.prog w= .ok (s.zl p 0).v w:=by kernel_rfl
  exact e
 ·have e:(Instr.index 68 (.agg #[(s.zl p 0).v,(s.zl p 1).v,(s.zl p 2).v,(s.zl p 3).v]) (.int .i64 1)).run Tryz.prog w= .ok (s.zl p 1).v w:=by kernel_rfl
  exact e
 ·have e:(Instr.index 68 (.agg #[(s.zl p 0).v,(s.zl p 1).v,(s.zl p 2).v,(s.zl p 3).v]) (.int .i64 2)).run Tryz.prog w= .ok (s.zl p 2).v w:=by kernel_rfl
  exact e
 have e:(Instr.index 68 (.agg #[(s.zl p 0).v,(s.zl p 1).v,(s.zl p 2).v,(s.zl p 3).v]) (.int .i64 3)).run Tryz.prog w= .ok (s.zl p 3).v w:=by kernel_rfl
 exact e
def PcL(w:World)(s:Bs)(B:Bd)(p:Nat)(id:Int)(n z:Value)(wr:World):Prop:=∃k:Nat,k<=4/\z= .int .i64 k/\n= .int .i64 ((zpre (B.seat p) k).count id:Nat)/\Below w.heap.size w wr/\Bx wr w.heap.size s B
def PcM(w:World)(s:Bs)(B:Bd)(p:Nat)(id:Int)(n i:Value)(wr:World):Prop:=∃k:Nat,k<=B.st.length/\i= .int .i64 k/\n= .int .i64 ((B.seat p).all.count id+(spr (B.st.take k)).count (id,(p:Int)):Nat)/\Below w.heap.size w wr/\Bx wr w.heap.size s B
theorem spr_le(l:List It):(spr l).length<=l.length:=by
 unfold spr cst;rw[List.length_map];exact List.length_filter_le _ _
theorem places(s:Bs)(B:Bd)(pl:Int)(p:Nat)(id:Int)(w:World)(h:BdR w s B)(hsm:B.Sm)(hp2:p<2)(hpl:pl=(p:Nat))(htr:∀x∈B.st, -1<=x.tr):Calls Tryz.prog 45 #[bv s B,.int .i64 pl,.int .i64 id] w fun e w' =>e= .returned (.int .i64 (B.prs.count (id,pl):Nat))/\Below w.heap.size w w':=by
 subst hpl;have HR:=Hd h;have HSM:=Hd hsm;have HTR:=Hd htr;have HP2:=Hd hp2;clear h hsm htr;have i1:(0:Int)<=(p:Int):=by omega
 have i2:(p:Int)<2:=by omega
 go_enter Tryz.func45,Tryz.ntmps45
 go_upto_region 1 with fail
 change Code.wp Tryz.prog _ _ _ (w.alloc (.cells (bcells s B) 34))
 obtain⟨wz,hwz⟩:∃W,W=w.alloc (.cells (bcells s B) 34):=⟨_,rfl⟩
 have HX:Hid (Bx wz w.heap.size s B):=Hd (by rw[hwz];exact heap_alloc_new _ _);have HBZ:Hid (Below w.heap.size w wz):=Hd (by rw[hwz];exact(Below.refl _ _).alloc (Nat.le_refl _) _);rw[<-hwz];clear hwz;go_wp2_with (refine wpList_load_mid rfl 28 _ rfl w.heap.size (1+p*14) rfl (seL (s.zl p 0) (s.zl p 1) (s.zl p 2) (s.zl p 3) (B.seat p)) _ (HX.o.seat HP2.o) Tryz.underlying28 rfl rfl ?_)
 with_reducible refine(zonesV _ _ _ _ _ _).mono ?_
 rintro e w2 ⟨rfl,hb2⟩;replace HX:=Hd (HX.o.below hb2);replace HBZ:=Hd (below_via HBZ.o hb2);clear hb2 i1 i2;go_wp2_with fail
 go_loopw [7,17] (fun n z wr=>PcL w s B p id n z wr) (fun _ z _=>4-(intOf z).toNat)
 case atStart=>exact⟨0,by omega,rfl,rfl,HBZ.o,HX.o⟩
 obtain⟨z,hz,rfl,rfl,hb,hx⟩:=hrel
 have HB:=Hd hb;have HXX:=Hd hx;clear hb hx HX HBZ;have hcl:(zpre (B.seat p) z).count id<=4000:=Nat.le_trans List.count_le_length (zpre_len HSM.o p z)
 by_cases hz4:z<4
 ·have j1:(0:Int)<=(z:Int):=by omega
  have j2:(z:Int)<4:=by omega
  have hix:=idxz s p hz4;have HS:=Hd (zpre_count (B.seat p) hz4 id);have hc2:((B.seat p).zs z).count id<=1000:=Nat.le_trans List.count_le_length (HSM.o.zs p z);have HC:=Hd (countI _ _ id wr ((HR.o.zone p z).below HB.o))
  obtain⟨c,hc⟩:∃c,(zpre (B.seat p) z).count id=c:=⟨_,rfl⟩
  obtain⟨c2,hc2e⟩:∃c,((B.seat p).zs z).count id=c:=⟨_,rfl⟩
  rw[hc,hc2e] at HS
  rw[hc] at hcl ⊢
  rw[hc2e] at HC hc2
  clear hc hc2e;go_wp2_with fail
  with_reducible refine HC.o.mono ?_
  rintro e w3 ⟨rfl,rfl⟩;go_wp2_with fail
  go_roundw
  case rel=>exact⟨z+1,by omega,by go_num,by rw[HS.o];go_num,HB.o,HXX.o⟩
  case measure=>simp[intOf];omega
 obtain rfl:z=4:=by omega
 rw[zpre_four] at hcl ⊢
 obtain⟨l',hl',hrw,htg⟩:=HR.o.st
 have HTL:=Hd hl'
 obtain⟨hml,a0,c0,hv,hf⟩:=hrw.form
 simp only[Sl.v,Value.slice.injEq] at hv
 have hlen:l'.length=B.st.length:=by rw[<-hl',List.length_map]
 have HLN:=Hd hlen
 have HST:Hid (∀W,Bx W w.heap.size s B->W.cell? ⟨w.heap.size,29,none⟩=some (.slice a0 B.st.length c0)):=Hd (fun W h=>by
  rw[h.cell 29]
  show some (Value.slice s.st.a s.st.n s.st.c)=_
  rw[hv.1,hv.2.1,hv.2.2,hlen])
 have HF:=Hd hf;have hml2:B.st.length<=1000:=HSM.o.st;clear hl' hrw htg hv hf hlen hml hz4 hz;go_wp2_with fail
 go_loopw [7,10] (fun n i wr=>PcM w s B p id n i wr) (fun _ i _=>B.st.length-(intOf i).toNat)
 case atStart=>exact⟨0,by omega,rfl,by simp[spr,cst],HB.o,HXX.o⟩
 obtain⟨i,hi,rfl,rfl,hb,hx⟩:=hrel
 replace HB:=Hd hb;replace HXX:=Hd hx;have c29:=HST.o wr hx;clear hx
 have hcs:(spr (B.st.take i)).count (id,(p:Int))<=1000:=by
  have h1:=List.count_le_length (l:=spr (B.st.take i)) (a:=(id,(p:Int)));have h2:=spr_le (B.st.take i);have h3:(B.st.take i).length<=B.st.length:=by simp;omega
  omega
 by_cases hil:i<B.st.length
 ·obtain⟨b0,off,rfl,hlt,hc⟩:=HF.o (by have:=HLN.o;omega)
  obtain⟨y,hy⟩:∃y,l'[i]? =some y:=⟨_,List.getElem?_eq_getElem (by have:=HLN.o;omega)⟩
  obtain⟨x,⟨ta,tn,tc'⟩⟩:=y
  have hx:B.st[i]? =some x:=by rw[<-HTL.o,List.getElem?_map,hy];rfl
  have hd:∀(j:Nat) (u:Value),(itc (x,⟨ta,tn,tc'⟩))[j]? =some u->wr.cell? ⟨b0,off+(i*5+j),none⟩=some u:=fun j u hu=>(hb.cell (p:=⟨b0,off+(i*5+j),none⟩) hlt).trans (hc i _ hy j u hu)
  have d0:wr.cell? ⟨b0,off+i*5,none⟩=some (.int .i64 x.pl):=hd 0 _ rfl;have d1:=cA hd 1 rfl;have d2:=cA hd 2 rfl;have d3:=cA hd 3 rfl;have d4:wr.cell? ⟨b0,off+i*5+4,none⟩=some (.slice ta tn tc'):=by rw[Nat.add_assoc];exact hd 4 _ rfl
  have k1:(0:Int)<=(i:Int):=by omega
  have k2:(i:Int)<(B.st.length:Int):=by omega
  have HS:=Hd (spr_count B.st i x hx (HTR.o x (List.mem_of_getElem? hx)) id p);clear hc hy hx hd hb
  go_upto_region 11 with fail
  obtain⟨wq,hwq⟩:∃W,W=wr.alloc (.cells #[.int .i64 x.pl,.int .i64 x.id,.int .i64 x.cd,.int .i64 x.tr,.slice ta tn tc'] 73):=⟨_,rfl⟩
  rw[<-hwq];have hqb:Below wr.heap.size wr wq:=by rw[hwq];exact(Below.refl _ _).alloc (Nat.le_refl _) _
  have hqc:∀j,wq.cell? ⟨wr.heap.size,j,none⟩=(#[.int .i64 x.pl,.int .i64 x.id,.int .i64 x.cd,.int .i64 x.tr,.slice ta tn tc']:Array Value)[j]? :=fun j=>by rw[hwq];exact cell_of_row _ _ j _ 73 (0,0) (heap_alloc_new _ _)
  clear hwq d0 d1 d2 d3 d4 c29;replace HB:=Hd (below_via HB.o hqb);replace HXX:=Hd (HXX.o.below hqb)
  obtain⟨n0,hn0⟩:∃n,n=wr.heap.size:=⟨_,rfl⟩
  rw[<-hn0] at hqc ⊢
  have q0:wq.cell? ⟨n0,0,none⟩=some (.int .i64 x.pl):=hqc 0;have q1:wq.cell? ⟨n0,1,none⟩=some (.int .i64 x.id):=hqc 1;have q3:wq.cell? ⟨n0,3,none⟩=some (.int .i64 x.tr):=hqc 3;clear hqb hqc hn0;have hsum:(B.seat p).all.count id+(spr (B.st.take i)).count (id,(p:Int))<=100000:=by omega
  obtain⟨c,hc⟩:∃c,(B.seat p).all.count id+(spr (B.st.take i)).count (id,(p:Int))=c:=⟨_,rfl⟩
  have HS2:Hid ((B.seat p).all.count id+(spr (B.st.take (i+1))).count (id,(p:Int))=c+if x.tr= -1/\x.id=id/\x.pl=p then 1 else 0):=Hd (by rw[HS.o];omega);rw[hc] at hsum ⊢
  clear HS hc hcs hcl
  by_cases g1:x.tr= -1
  ·have t1:(x.tr== -1)=true:=by simp[g1]
   by_cases g2:x.id=id
   ·have t2:(x.id==id)=true:=by simp[g2]
    by_cases g3:x.pl=p
    ·have t3:(x.pl==(p:Int))=true:=by simp[g3]
     rw[if_pos ⟨g1,g2,g3⟩] at HS2
     clear g1 g2 g3;go_wp2_with fail
     go_roundw
     case rel=>exact⟨i+1,by omega,by go_num,by rw[HS2.o];go_num,HB.o,HXX.o⟩
     case measure=>simp[intOf];omega
    have t3:(x.pl==(p:Int))=false:=beq_false_of_ne g3;rw[if_neg (fun h=>g3 h.2.2)] at HS2
    clear g1 g2 g3;go_wp2_with fail
    go_roundw
    case rel=>exact⟨i+1,by omega,by go_num,by rw[HS2.o];rfl,HB.o,HXX.o⟩
    case measure=>simp[intOf];omega
   have t2:(x.id==id)=false:=beq_false_of_ne g2;rw[if_neg (fun h=>g2 h.2.1)] at HS2
   clear g1 g2;go_wp2_with fail
   go_roundw
   case rel=>exact⟨i+1,by omega,by go_num,by rw[HS2.o];rfl,HB.o,HXX.o⟩
   case measure=>simp[intOf];omega
  have t1:(x.tr== -1)=false:=beq_false_of_ne g1;rw[if_neg (fun h=>g1 h.1)] at HS2
  clear g1;go_wp2_with fail
  go_roundw
  case rel=>exact⟨i+1,by omega,by go_num,by rw[HS2.o];rfl,HB.o,HXX.o⟩
  case measure=>simp[intOf];omega
 have hie:i=B.st.length:=by omega
 have HE:Hid (B.prs.count (id,(p:Int))=(B.seat p).all.count id+(spr (B.st.take i)).count (id,(p:Int))):=Hd (by rw[prs_count B p HP2.o,hie,List.take_length]);clear hie hb hcs hcl;go_wp2_with fail
 go_returns
 exact⟨by rw[HE.o];rfl,HB.o⟩
end Go.Proofs.YtpbepnpnpopmfaaGreat
