/- In how many places something is, by the reference. -/
import Derived.Test.YtgkgbpapfjjkcaaBRf
import Derived.Test.YtgkgbpapfjjkcaaBB
import Derived.Deep.DeepCutAuto
import Derived.LoopTactic
import Derived.Deep.MidRow
namespace Go.Proofs.Ytgkgbpapfjjkcaa
open Go.RowKit Plain
set_option linter.unusedVariables false
set_option linter.unusedSimpArgs false

theorem zonesV(l h f g:Sl)(S:Se)(w:World):Calls Try.prog 27 #[.agg (seL l h f g S).toArray] w fun e w' =>e= .returned (.agg #[l.v,h.v,f.v,g.v])∧Below w.heap.size w w':=by
 obtain⟨la,ln,lc⟩:=l
 obtain⟨ha,hn,hc⟩:=h
 obtain⟨fa,fn,fc⟩:=f
 obtain⟨ga,gn,gc⟩:=g
 exact zones S w
theorem idxz(s:Bs)(p:Nat){z:Nat}(h:z<4)(w:World):(Instr.index 76 (.agg #[(s.zl p 0).v,(s.zl p 1).v,(s.zl p 2).v,(s.zl p 3).v]) (.int .i64 (z:Nat))).run Try.prog w= .ok (s.zl p z).v w:=by
 have:z=0∨z=1∨z=2∨z=3:=by omega
 rcases this with rfl|rfl|rfl|rfl
 ·have e:(Instr.index 76 (.agg #[(s.zl p 0).v,(s.zl p 1).v,(s.zl p 2).v,(s.zl p 3).v]) (.int .i64 0)).run Try.prog w= .ok (s.zl p 0).v w:=by kernel_rfl
  exact e
 ·have e:(Instr.index 76 (.agg #[(s.zl p 0).v,(s.zl p 1).v,(s.zl p 2).v,(s.zl p 3).v]) (.int .i64 1)).run Try.prog w= .ok (s.zl p 1).v w:=by kernel_rfl
  exact e
 ·have e:(Instr.index 76 (.agg #[(s.zl p 0).v,(s.zl p 1).v,(s.zl p 2).v,(s.zl p 3).v]) (.int .i64 2)).run Try.prog w= .ok (s.zl p 2).v w:=by kernel_rfl
  exact e
 ·have e:(Instr.index 76 (.agg #[(s.zl p 0).v,(s.zl p 1).v,(s.zl p 2).v,(s.zl p 3).v]) (.int .i64 3)).run Try.prog w= .ok (s.zl p 3).v w:=by kernel_rfl
  exact e
def PcL(w:World)(s:Bs)(B:Bd)(p:Nat)(id:Int)(n z:Value)(wr:World):Prop:=∃k:Nat,k≤4∧z= .int .i64 k∧n= .int .i64 ((zpre (B.seat p) k).count id:Nat)∧Below w.heap.size w wr∧Bx wr w.heap.size s B
def PcM(w:World)(s:Bs)(B:Bd)(p:Nat)(id:Int)(n i:Value)(wr:World):Prop:=∃k:Nat,k≤B.st.length∧i= .int .i64 k∧n= .int .i64 ((B.seat p).all.count id+(spr (B.st.take k)).count (id,(p:Int)):Nat)∧Below w.heap.size w wr∧Bx wr w.heap.size s B
theorem spr_le(l:List It):(spr l).length≤l.length:=by
 unfold spr cst;rw[List.length_map];exact List.length_filter_le _ _
set_option maxRecDepth 100000 in
set_option maxHeartbeats 4000000 in
theorem places(s:Bs)(B:Bd)(pl:Int)(p:Nat)(id:Int)(w:World)(h:BdR w s B)(hsm:B.Sm)(hp2:p<2)(hpl:pl=(p:Nat))(htr:∀x∈B.st, -1≤x.tr):Calls Try.prog 72 #[bv s B,.int .i64 pl,.int .i64 id] w fun e w' =>e= .returned (.int .i64 (B.prs.count (id,pl):Nat))∧Below w.heap.size w w':=by
 subst hpl;have HR:=Lib.hid h;have HSM:=Lib.hid hsm;have HTR:=Lib.hid htr;have HP2:=Lib.hid hp2;clear h hsm htr;have i1:(0:Int)≤(p:Int):=by omega
 have i2:(p:Int)<2:=by omega
 go_enter Try.func72,Try.ntmps72
 go_upto_region 1 with fail
 change Code.wp Try.prog _ _ _ (w.alloc (.cells (bcells s B) 34))
 obtain⟨wz,hwz⟩:∃W,W=w.alloc (.cells (bcells s B) 34):=⟨_,rfl⟩
 have HX:Hid (Bx wz w.heap.size s B):=Lib.hid (by rw[hwz];exact heap_alloc_new _ _);have HBZ:Hid (Below w.heap.size w wz):=Lib.hid (by rw[hwz];exact(Below.refl _ _).alloc (Nat.le_refl _) _);rw[←hwz];clear hwz;go_wp2_with (refine wpList_load_mid rfl 28 _ rfl w.heap.size (1+p*14) rfl (seL (s.zl p 0) (s.zl p 1) (s.zl p 2) (s.zl p 3) (B.seat p)) _ (HX.out.seat HP2.out) Try.underlying28 rfl rfl ?_)
 with_reducible refine(zonesV _ _ _ _ _ _).mono ?_
 rintro e w2 ⟨rfl,hb2⟩;replace HX:=Lib.hid (HX.out.below hb2);replace HBZ:=Lib.hid (below_via HBZ.out hb2);clear hb2 i1 i2;go_wp2_with fail
 go_loopw [7,17] (fun n z wr=>PcL w s B p id n z wr) (fun _ z _=>4-(intOf z).toNat)
 case atStart=>exact⟨0,by omega,rfl,rfl,HBZ.out,HX.out⟩
 case round=>
  obtain⟨z,hz,rfl,rfl,hb,hx⟩:=hrel
  have HB:=Lib.hid hb;have HXX:=Lib.hid hx;clear hb hx HX HBZ;have hcl:(zpre (B.seat p) z).count id≤4000:=Nat.le_trans List.count_le_length (zpre_len HSM.out p z)
  by_cases hz4:z<4
  ·have j1:(0:Int)≤(z:Int):=by omega
   have j2:(z:Int)<4:=by omega
   have hix:=idxz s p hz4;have HS:=Lib.hid (zpre_count (B.seat p) hz4 id);have hc2:((B.seat p).zs z).count id≤1000:=Nat.le_trans List.count_le_length (HSM.out.zs p z);have HC:=Lib.hid (countI _ _ id wr ((HR.out.zone p z).below HB.out))
   obtain⟨c,hc⟩:∃c,(zpre (B.seat p) z).count id=c:=⟨_,rfl⟩
   obtain⟨c2,hc2e⟩:∃c,((B.seat p).zs z).count id=c:=⟨_,rfl⟩
   rw[hc,hc2e] at HS
   rw[hc] at hcl ⊢
   rw[hc2e] at HC hc2
   clear hc hc2e;go_wp2_with fail
   with_reducible refine HC.out.mono ?_
   rintro e w3 ⟨rfl,rfl⟩;go_wp2_with fail
   go_roundw
   case rel=>exact⟨z+1,by omega,by go_num,by rw[HS.out];go_num,HB.out,HXX.out⟩
   case measure=>simp[intOf];omega
  ·obtain rfl:z=4:=by omega
   rw[zpre_four] at hcl ⊢
   obtain⟨l',hl',hrw,htg⟩:=HR.out.st
   have HTL:=Lib.hid hl'
   obtain⟨hml,a0,c0,hv,hf⟩:=hrw.form
   simp only[Sl.v,Value.slice.injEq] at hv
   have hlen:l'.length=B.st.length:=by rw[←hl',List.length_map]
   have HLN:=Lib.hid hlen
   have HST:Hid (∀W,Bx W w.heap.size s B→W.cell? ⟨w.heap.size,29,none⟩=some (.slice a0 B.st.length c0)):=Lib.hid (fun W h=>by
    rw[h.cell 29]
    show some (Value.slice s.st.a s.st.n s.st.c)=_
    rw[hv.1,hv.2.1,hv.2.2,hlen])
   have HF:=Lib.hid hf;have hml2:B.st.length≤1000:=HSM.out.st;clear hl' hrw htg hv hf hlen hml hz4 hz;go_wp2_with fail
   go_loopw [7,10] (fun n i wr=>PcM w s B p id n i wr) (fun _ i _=>B.st.length-(intOf i).toNat)
   case atStart=>exact⟨0,by omega,rfl,by simp[spr,cst],HB.out,HXX.out⟩
   case round=>
    obtain⟨i,hi,rfl,rfl,hb,hx⟩:=hrel
    replace HB:=Lib.hid hb;replace HXX:=Lib.hid hx;have c29:=HST.out wr hx;clear hx
    have hcs:(spr (B.st.take i)).count (id,(p:Int))≤1000:=by
     have h1:=List.count_le_length (l:=spr (B.st.take i)) (a:=(id,(p:Int)));have h2:=spr_le (B.st.take i);have h3:(B.st.take i).length≤B.st.length:=by simp;omega
     omega
    by_cases hil:i<B.st.length
    ·obtain⟨b0,off,rfl,hlt,hc⟩:=HF.out (by have:=HLN.out;omega)
     obtain⟨y,hy⟩:∃y,l'[i]? =some y:=⟨_,List.getElem?_eq_getElem (by have:=HLN.out;omega)⟩
     obtain⟨x,⟨ta,tn,tc'⟩⟩:=y
     have hx:B.st[i]? =some x:=by rw[←HTL.out,List.getElem?_map,hy];rfl
     have hd:∀(j:Nat) (u:Value),(itc (x,⟨ta,tn,tc'⟩))[j]? =some u→wr.cell? ⟨b0,off+(i*5+j),none⟩=some u:=fun j u hu=>(hb.cell (p:=⟨b0,off+(i*5+j),none⟩) hlt).trans (hc i _ hy j u hu)
     have d0:wr.cell? ⟨b0,off+i*5,none⟩=some (.int .i64 x.pl):=hd 0 _ rfl;have d1:=cA hd 1 rfl;have d2:=cA hd 2 rfl;have d3:=cA hd 3 rfl;have d4:wr.cell? ⟨b0,off+i*5+4,none⟩=some (.slice ta tn tc'):=by rw[Nat.add_assoc];exact hd 4 _ rfl
     have k1:(0:Int)≤(i:Int):=by omega
     have k2:(i:Int)<(B.st.length:Int):=by omega
     have HS:=Lib.hid (spr_count B.st i x hx (HTR.out x (List.mem_of_getElem? hx)) id p);clear hc hy hx hd hb
     go_upto_region 11 with fail
     obtain⟨wq,hwq⟩:∃W,W=wr.alloc (.cells #[.int .i64 x.pl,.int .i64 x.id,.int .i64 x.cd,.int .i64 x.tr,.slice ta tn tc'] 60):=⟨_,rfl⟩
     rw[←hwq];have hqb:Below wr.heap.size wr wq:=by rw[hwq];exact(Below.refl _ _).alloc (Nat.le_refl _) _
     have hqc:∀j,wq.cell? ⟨wr.heap.size,j,none⟩=(#[.int .i64 x.pl,.int .i64 x.id,.int .i64 x.cd,.int .i64 x.tr,.slice ta tn tc']:Array Value)[j]? :=fun j=>by rw[hwq];exact cell_of_row _ _ j _ 60 (0,0) (heap_alloc_new _ _)
     clear hwq d0 d1 d2 d3 d4 c29;replace HB:=Lib.hid (below_via HB.out hqb);replace HXX:=Lib.hid (HXX.out.below hqb)
     obtain⟨n0,hn0⟩:∃n,n=wr.heap.size:=⟨_,rfl⟩
     rw[←hn0] at hqc ⊢
     have q0:wq.cell? ⟨n0,0,none⟩=some (.int .i64 x.pl):=hqc 0;have q1:wq.cell? ⟨n0,1,none⟩=some (.int .i64 x.id):=hqc 1;have q3:wq.cell? ⟨n0,3,none⟩=some (.int .i64 x.tr):=hqc 3;clear hqb hqc hn0;have hsum:(B.seat p).all.count id+(spr (B.st.take i)).count (id,(p:Int))≤100000:=by omega
     obtain⟨c,hc⟩:∃c,(B.seat p).all.count id+(spr (B.st.take i)).count (id,(p:Int))=c:=⟨_,rfl⟩
     have HS2:Hid ((B.seat p).all.count id+(spr (B.st.take (i+1))).count (id,(p:Int))=c+if x.tr= -1∧x.id=id∧x.pl=p then 1 else 0):=Lib.hid (by rw[HS.out];omega);rw[hc] at hsum ⊢
     clear HS hc hcs hcl
     by_cases g1:x.tr= -1
     ·have t1:(x.tr== -1)=true:=by simp[g1]
      by_cases g2:x.id=id
      ·have t2:(x.id==id)=true:=by simp[g2]
       by_cases g3:x.pl=p
       ·have t3:(x.pl==(p:Int))=true:=by simp[g3]
        rw[if_pos ⟨g1,g2,g3⟩] at HS2
        clear g1 g2 g3;go_wp2_with fail
        go_roundw
        case rel=>exact⟨i+1,by omega,by go_num,by rw[HS2.out];go_num,HB.out,HXX.out⟩
        case measure=>simp[intOf];omega
       ·have t3:(x.pl==(p:Int))=false:=beq_false_of_ne g3
        rw[if_neg (fun h=>g3 h.2.2)] at HS2
        clear g1 g2 g3;go_wp2_with fail
        go_roundw
        case rel=>exact⟨i+1,by omega,by go_num,by rw[HS2.out];rfl,HB.out,HXX.out⟩
        case measure=>simp[intOf];omega
      ·have t2:(x.id==id)=false:=beq_false_of_ne g2
       rw[if_neg (fun h=>g2 h.2.1)] at HS2
       clear g1 g2;go_wp2_with fail
       go_roundw
       case rel=>exact⟨i+1,by omega,by go_num,by rw[HS2.out];rfl,HB.out,HXX.out⟩
       case measure=>simp[intOf];omega
     ·have t1:(x.tr== -1)=false:=beq_false_of_ne g1
      rw[if_neg (fun h=>g1 h.1)] at HS2
      clear g1;go_wp2_with fail
      go_roundw
      case rel=>exact⟨i+1,by omega,by go_num,by rw[HS2.out];rfl,HB.out,HXX.out⟩
      case measure=>simp[intOf];omega
    ·have hie:i=B.st.length:=by omega
     have HE:Hid (B.prs.count (id,(p:Int))=(B.seat p).all.count id+(spr (B.st.take i)).count (id,(p:Int))):=Lib.hid (by rw[prs_count B p HP2.out,hie,List.take_length]);clear hie hb hcs hcl;go_wp2_with fail
     go_returns
     exact⟨by rw[HE.out];rfl,HB.out⟩
end Go.Proofs.Ytgkgbpapfjjkcaa
