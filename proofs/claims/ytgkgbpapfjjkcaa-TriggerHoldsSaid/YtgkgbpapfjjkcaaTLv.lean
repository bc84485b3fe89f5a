/- The memory of a board of our own is changed. A board is the one that is wanted, and shares no memory. A zero board is given. -/
import Derived.Test.YtgkgbpapfjjkcaaBLs
import Derived.Deep.DeepCutAuto
import Derived.LoopTactic
import Derived.Deep.MidRow
import Derived.Test.YtgkgbpapfjjkcaaBSa
import Derived.Test.YtgkgbpapfjjkcaaTLw
namespace Go.Proofs.Ytgkgbpapfjjkcaa
open Go.RowKit Plain
set_option linter.unusedVariables false
set_option linter.unusedSimpArgs false

/-- numbers have changed, in blocks of [lo, hi) alone -/
structure Stn(lo hi:Nat)(w0 w:World):Prop where
 rng:Rng lo hi w0 w
 ints:∀a z,w0.cell? a=some (.int .i64 z)→∃z',w.cell? a=some (.int .i64 z')
 rest:∀a v,w0.cell? a=some v→(∀z,v≠ .int .i64 z)→w.cell? a=some v
 free:∀a v,w0.cell? a=some v→w0.frozen? a=false→w.frozen? a=false
theorem cell_lt{w:World}{a:Addr}{v:Value}(h:w.cell? a=some v):a.block<w.heap.size:=World.block_lt_of_cell? w a h
theorem Ro.onlS{w w':World}{P:Nat}{C:Array Value}{t:TypeId}{S:List Nat}(h:Ro w P C t)(ho:Onl S w w')(hS:P∉S):Ro w' P C t:=(ho.block P h.lt hS).trans h
theorem Stn.refl(lo hi:Nat)(w:World):Stn lo hi w w:=⟨Rng.refl _ _ _,fun a z h=>⟨z,h⟩,fun a v h _=>h,fun a v _ h=>h⟩
theorem Stn.grow{lo hi:Nat}{w0 w w':World}(h:Stn lo hi w0 w)(hb:Below w.heap.size w w'):Stn lo hi w0 w':=by
 have e:∀a v,w0.cell? a=some v→w'.cell? a=w.cell? a∧w'.frozen? a=w.frozen? a:=fun a v hc=>by
  have h1:a.block<w.heap.size:=Nat.lt_of_lt_of_le (cell_lt hc) h.rng.size
  exact⟨hb.cell h1,hb.frozen h1⟩
 exact⟨h.rng.grow hb,fun a z hc=>by rw[(e a _ hc).1];exact h.ints a z hc,fun a v hc hn=>by rw[(e a _ hc).1];exact h.rest a v hc hn,fun a v hc hf=>by rw[(e a _ hc).2];exact h.free a v hc hf⟩
/-- a number is stored -/
theorem Stn.put{lo hi:Nat}{w0 w:World}(h:Stn lo hi w0 w){g q:Nat}{y:Int}(hc:w0.cell? ⟨g,q,none⟩=some (.int .i64 y))(h1:lo≤g)(h2:g<hi)(z:Int):Stn lo hi w0 (w.setCell ⟨g,q,none⟩ (.int .i64 z)):=by
 obtain⟨z1,hz1⟩:=h.ints _ _ hc
 have key:∀a,(w.setCell ⟨g,q,none⟩ (.int .i64 z)).cell? a=if a=⟨g,q,none⟩ then some (.int .i64 z) else w.cell? a:=fun a=>by
  split
  ·rename_i e;rw[e];exact World.cell?_setCell_same _ _ _ hz1
  ·rename_i e;exact World.cell?_setCell_other _ _ _ _ (Ne.symm e)
 refine⟨h.rng.trans (Rng.setCell (q:=⟨g,q,none⟩) ⟨h1,h2⟩ _),fun a y' ha=> ?_,fun a v ha hn=> ?_,fun a v ha hf=> ?_⟩
 ·rw[key]
  split
  ·exact⟨z,rfl⟩
  ·exact h.ints a y' ha
 ·rw[key]
  split
  ·rename_i e
   rw[e,hc] at ha
   simp at ha
   exact absurd ha.symm (hn y)
  ·exact h.rest a v ha hn
 ·rw[World.frozen?_setCell];exact h.free a v ha hf
def StR(w0:World)(lo hi n:Nat)(v:Value)(wr:World):Prop:=∃k:Nat,k≤n∧v= .int .i64 k∧Stn lo hi w0 wr
def StI(w0:World)(lo hi C:Nat)(Z:Array Value)(n:Nat)(v:Value)(wr:World):Prop:=∃k:Nat,k≤n∧v= .int .i64 k∧Stn lo hi w0 wr∧Ro wr C Z 30
set_option maxRecDepth 100000 in
set_option maxHeartbeats 4000000 in
theorem stain(s:Bs)(B:Bd)(lo hi:Nat)(w:World)(ho:BdO lo hi w s B)(hhi:hi≤w.heap.size):Calls Try.prog 43 #[bv s B] w fun e w' =>e= .returned (.tuple #[])∧Rng lo hi w w':=by
 have hat:=ho.il 8 (by omega);change Ox ic 1 3 lo hi w s.at'.v B.att at hat
 obtain⟨oa,oc',hvo⟩:=ho.ob.1.form
 obtain⟨ba,bc,hvb⟩:=ho.bl.1.form
 obtain⟨aa,ac,hva⟩:=hat.1.form
 obtain⟨l1,hl1,hs1,ht1⟩:=ho.st
 obtain⟨l2,hl2,hs2,ht2⟩:=ho.qu
 obtain⟨sta,stc,hvs⟩:=hs1.1.form
 obtain⟨qua,quc,hvq⟩:=hs2.1.form
 have en1:l1.length=B.st.length:=by rw[←hl1,List.length_map]
 have en2:l2.length=B.qu.length:=by rw[←hl2,List.length_map]
 rw[en1] at hvs
 rw[en2] at hvq
 go_enter Try.func43,Try.ntmps43
 go_upto_region 1 with fail
 change Code.wp Try.prog _ _ _ (w.alloc (.cells (bcells s B) 34))
 obtain⟨wz,hwz⟩:∃W,W=w.alloc (.cells (bcells s B) 34):=⟨_,rfl⟩
 have hx:Bx wz w.heap.size s B:=by rw[hwz];exact heap_alloc_new _ _
 have hb:Below w.heap.size w wz:=by rw[hwz];exact(Below.refl _ _).alloc (Nat.le_refl _) _
 have HHI:Hid (hi≤wz.heap.size):=Lib.hid (Nat.le_trans hhi hb.size);rw[←hwz];clear hwz;have HBX:Hid (∀W,Stn lo hi wz W→Bx W w.heap.size s B):=Lib.hid (fun W h=>(h.rng.block _ hx.lt (by omega)).trans hx);have HO:=Lib.hid (ho.below hb);have HB0:=Lib.hid hb;have HRo:Hid (Ox oc 12 83 lo hi wz (.slice oa B.ob.length oc') B.ob):=Lib.hid (by rw[←hvo];exact ho.ob.below hb);have HRb:Hid (Ox kc 2 107 lo hi wz (.slice ba B.bl.length bc) B.bl):=Lib.hid (by rw[←hvb];exact ho.bl.below hb);have HRa:Hid (Ox ic 1 3 lo hi wz (.slice aa B.att.length ac) B.att):=Lib.hid (by rw[←hva];exact hat.below hb)
 have HITS:Hid (∀i,i<2→∃(L:List It) (l':List (It×Sl)) (a0:Option Addr) (c0:Nat),(#[.slice sta B.st.length stc,.slice qua B.qu.length quc]:Array Value)[i]? =some (.slice a0 L.length c0)∧l'.map Prod.fst=L∧Ox itc 5 60 lo hi wz (.slice a0 L.length c0) l'∧∀x∈l',TgO lo hi wz x.2.v x.1.tg):=Lib.hid (fun i hi2=>by
  have:i=0∨i=1:=by omega
  rcases this with rfl|rfl
  ·exact⟨B.st,l1,sta,stc,rfl,hl1,by rw[←hvs];exact hs1.below hb,fun x hx=>(ht1 x hx).below hb⟩
  ·exact⟨B.qu,l2,qua,quc,rfl,hl2,by rw[←hvq];exact hs2.below hb,fun x hx=>(ht2 x hx).below hb⟩)
 have HVo:=Lib.hid hvo;have HVb:=Lib.hid hvb;have HVa:=Lib.hid hva;have HVs:=Lib.hid hvs;have HVq:=Lib.hid hvq;have HST:Hid (Stn lo hi wz wz):=Lib.hid (Stn.refl _ _ _);have hm1:B.ob.length≤9223372036854775807:=by have:=ho.ob.1.max;unfold maxLen at this;omega
 have hm2:B.att.length≤9223372036854775807:=by have:=hat.1.max;unfold maxLen at this;omega
 have hm3:B.bl.length≤9223372036854775807:=by have:=ho.bl.1.max;unfold maxLen at this;omega
 clear hvo hvb hva hvs hvq ho hat hl1 hl2 hs1 hs2 ht1 ht2 en1 en2 hhi hx hb;go_wp2_with fail
 go_loopw [2] (fun v wr=>StR wz lo hi B.ob.length v wr) (fun v _=>B.ob.length-(intOf v).toNat)
 case atStart=>exact⟨0,by omega,rfl,HST.out⟩
 case round=>
  obtain⟨k,hk,rfl,hst⟩:=hrel
  replace HST:=Lib.hid hst;have co:wr.cell? ⟨w.heap.size,0,none⟩=some (.slice oa B.ob.length oc'):=by rw[(HBX.out _ hst).cell 0,←HVo.out];rfl
  clear hst
  by_cases hkl:k<B.ob.length
  ·obtain⟨x,hx⟩:∃x,B.ob[k]? =some x:=⟨_,List.getElem?_eq_getElem hkl⟩
   obtain⟨g0,cap,hv,hg1,hg2,hg3⟩:=HRo.out.pos (by omega)
   simp only[Value.slice.injEq] at hv
   obtain⟨rfl,hzz,rfl⟩:=hv
   clear hzz;have hcc:=HRo.out.at (fun _ _=>rfl) hx (j:=5) (u:= .int .i64 (x.da)) rfl (k*12+5) (by omega)
   obtain⟨z1,hz1⟩:=HST.out.ints _ _ hcc.1
   have hz2:=HST.out.free _ _ hcc.1 hcc.2;have HPUT:Hid (Stn lo hi wz (wr.setCell ⟨g0,k*12+5,none⟩ (.int .i64 (wrap64 (z1+1))))):=Lib.hid (HST.out.put hcc.1 hg1 hg2 _);have i1:(0:Int)≤(k:Int):=by omega
   have i2:(k:Int)<(B.ob.length:Int):=by omega
   clear hx hcc hg1 hg2 hg3;go_wp2_with fail
   go_roundw
   case rel=>exact⟨k+1,by omega,by go_num,HPUT.out⟩
   case measure=>simp[intOf];omega
  ·go_wp2_with fail
   clear hkl hk
   go_loopw [3] (fun v wr=>StR wz lo hi 2 v wr) (fun v _=>2-(intOf v).toNat)
   case atStart=>exact⟨0,by omega,rfl,HST.out⟩
   case round=>
    obtain⟨p,hp,rfl,hst⟩:=hrel
    replace HST:=Lib.hid hst
    by_cases hp2:p<2
    ·have i1:(0:Int)≤(p:Int):=by omega
     have i2:(p:Int)<2:=by omega
     have HSEAT:=Lib.hid ((HBX.out _ hst).seat hp2);clear hst;go_wp2_with (refine wpList_load_mid rfl 28 _ rfl w.heap.size (1+p*14) rfl (seL (s.zl p 0) (s.zl p 1) (s.zl p 2) (s.zl p 3) (B.seat p)) _ HSEAT.out Try.underlying28 rfl rfl ?_)
     with_reducible refine(zonesV _ _ _ _ _ _).mono ?_
     rintro e w2 ⟨rfl,hb2⟩;replace HST:=Lib.hid (HST.out.grow hb2);clear hb2 HSEAT;go_wp2_with fail
     go_loopw [38] (fun v wr=>StR wz lo hi 4 v wr) (fun v _=>4-(intOf v).toNat)
     case atStart=>exact⟨0,by omega,rfl,HST.out⟩
     case round=>
      obtain⟨z,hz,rfl,hst⟩:=hrel
      replace HST:=Lib.hid hst;clear hst
      by_cases hz4:z<4
      ·have j1:(0:Int)≤(z:Int):=by omega
       have j2:(z:Int)<4:=by omega
       have hix:=idxz s p hz4;have hrow:=HO.out.il (4*p+z) (by omega);have ez:s.isl (4*p+z)=s.zl p z:=by unfold Bs.isl;rw[if_pos (by omega),show(4*p+z) / 4=p by omega,show(4*p+z)%4=z by omega]
       have ey:B.il (4*p+z)=(B.seat p).zs z:=by unfold Plain.Bd.il;rw[if_pos (by omega),show(4*p+z) / 4=p by omega,show(4*p+z)%4=z by omega]
       rw[ez,ey] at hrow
       obtain⟨za,zc,hv⟩:=hrow.1.form
       rw[hv] at hix hrow
       obtain⟨L,hL⟩:∃L,(B.seat p).zs z=L:=⟨_,rfl⟩
       rw[hL] at hrow hix
       have HRz:=Lib.hid hrow;have hmL:L.length≤9223372036854775807:=by have:=hrow.1.max;unfold maxLen at this;omega
       clear hv ez ey hL hrow;go_wp2_with fail
       go_loopw [6] (fun v wr=>StR wz lo hi L.length v wr) (fun v _=>L.length-(intOf v).toNat)
       case atStart=>exact⟨0,by omega,rfl,HST.out⟩
       case round=>
        obtain⟨k,hk,rfl,hst⟩:=hrel
        replace HST:=Lib.hid hst
        skip
        clear hst
        by_cases hkl:k<L.length
        ·obtain⟨x,hx⟩:∃x,L[k]? =some x:=⟨_,List.getElem?_eq_getElem hkl⟩
         obtain⟨g0,cap,hv,hg1,hg2,hg3⟩:=HRz.out.pos (by omega)
         simp only[Value.slice.injEq] at hv
         obtain⟨rfl,hzz,rfl⟩:=hv
         clear hzz;have hcc:=HRz.out.at (fun _ _=>rfl) hx (j:=0) (u:= .int .i64 (x)) rfl (k) (by omega)
         obtain⟨z1,hz1⟩:=HST.out.ints _ _ hcc.1
         have hz2:=HST.out.free _ _ hcc.1 hcc.2;have HPUT:Hid (Stn lo hi wz (wr.setCell ⟨g0,k,none⟩ (.int .i64 (wrap64 (z1+1))))):=Lib.hid (HST.out.put hcc.1 hg1 hg2 _);have i1:(0:Int)≤(k:Int):=by omega
         have i2:(k:Int)<(L.length:Int):=by omega
         clear hx hcc hg1 hg2 hg3;go_wp2_with fail
         go_roundw
         case rel=>exact⟨k+1,by omega,by go_num,HPUT.out⟩
         case measure=>simp[intOf];omega
        ·go_wp2_with fail
         clear hkl hk
         go_roundw
         case rel=>exact⟨z+1,by omega,by go_num,HST.out⟩
         case measure=>simp[intOf];omega
      ·obtain rfl:z=4:=by omega
       go_wp2_with fail
       go_roundw
       case rel=>exact⟨p+1,by omega,by go_num,HST.out⟩
       case measure=>simp[intOf];omega
    ·have c29:wr.cell? ⟨w.heap.size,29,none⟩=some (.slice sta B.st.length stc):=by rw[(HBX.out _ hst).cell 29,←HVs.out];rfl
     have c30:wr.cell? ⟨w.heap.size,30,none⟩=some (.slice qua B.qu.length quc):=by rw[(HBX.out _ hst).cell 30,←HVq.out];rfl
     clear hst
     go_upto_region 17 with fail
     clear hp hp2
     obtain⟨wq,hwq⟩:∃W,W=wr.alloc (.cells #[.slice sta B.st.length stc,.slice qua B.qu.length quc] 30):=⟨_,rfl⟩
     rw[←hwq];have hqb:Below wr.heap.size wr wq:=by rw[hwq];exact(Below.refl _ _).alloc (Nat.le_refl _) _
     have hqr:Ro wq wr.heap.size #[.slice sta B.st.length stc,.slice qua B.qu.length quc] 30:=by rw[hwq];exact Ro.new _ _ _
     obtain⟨n0,hn0⟩:∃n,n=wr.heap.size:=⟨_,rfl⟩
     rw[←hn0] at hqr ⊢
     have HGE:Hid (hi≤n0):=Lib.hid (by have h1:=HST.out.rng.size;have h2:=HHI.out;omega);replace HST:=Lib.hid (HST.out.grow hqb);have HC:=Lib.hid hqr;clear hwq hqb hqr hn0 c29 c30
     go_loopw [60] (fun v wr=>StI wz lo hi n0 #[.slice sta B.st.length stc,.slice qua B.qu.length quc] 2 v wr) (fun v _=>2-(intOf v).toNat)
     case atStart=>exact⟨0,by omega,rfl,HST.out,HC.out⟩
     case round=>
      obtain⟨i,hi2,rfl,hst,hc⟩:=hrel
      replace HST:=Lib.hid hst;replace HC:=Lib.hid hc;clear hst
      by_cases hi3:i<2
      ·have i1:(0:Int)≤(i:Int):=by omega
       have i2:(i:Int)<2:=by omega
       obtain⟨L,l',a0,c0,hci,hlm,hox,htg⟩:=HITS.out i hi3
       have ci:wr.cell? ⟨n0,i,none⟩=some (.slice a0 L.length c0):=by rw[hc.cell i];exact hci
       have HLM:=Lib.hid hlm;have HOX:=Lib.hid hox;have HTG:=Lib.hid htg;have hlen:l'.length=L.length:=by rw[←hlm,List.length_map]
       rw[←hlen] at ci
       rw[←hlen] at HOX
       have hmL:l'.length≤9223372036854775807:=by have:=hox.1.max;unfold maxLen at this;omega
       clear hci hlm hox htg hlen hc;go_wp2_with fail
       clear ci
       go_loopw [9] (fun v wr=>StI wz lo hi n0 #[.slice sta B.st.length stc,.slice qua B.qu.length quc] l'.length v wr) (fun v _=>l'.length-(intOf v).toNat)
       case atStart=>exact⟨0,by omega,rfl,HST.out,HC.out⟩
       case round=>
        obtain⟨m,hm,rfl,hst,hc⟩:=hrel
        replace HST:=Lib.hid hst;replace HC:=Lib.hid hc;clear hst hc
        by_cases hml:m<l'.length
        ·obtain⟨y,hy⟩:∃y,l'[m]? =some y:=⟨_,List.getElem?_eq_getElem hml⟩
         obtain⟨g1,cap,hv,hg1,hg2,hg3⟩:=HOX.out.pos (by omega)
         simp only[Value.slice.injEq] at hv
         obtain⟨rfl,hzz,rfl⟩:=hv
         clear hzz;have htw:=HTG.out y (List.mem_of_getElem? hy)
         obtain⟨y,⟨ta,tn,tc'⟩⟩:=y
         change TgO lo hi wz (.slice ta tn tc') y.tg at htw
         have etn:tn=y.tg.length:=by
          obtain⟨_,_,h⟩:=htw.form
          simp only[Value.slice.injEq] at h
          exact h.2.1
         subst etn;have HTW:=Lib.hid htw;have hmt:y.tg.length≤9223372036854775807:=by have:=htw.max;unfold maxLen at this;omega
         have hca:=HOX.out.at (fun _ _=>rfl) hy (j:=2) (u:= .int .i64 y.cd) rfl (m*5+2) rfl
         have hcb:=HOX.out.at (fun _ _=>rfl) hy (j:=4) (u:= .slice ta y.tg.length tc') rfl (m*5+4) rfl
         obtain⟨z1,hz1⟩:=HST.out.ints _ _ hca.1
         have hz2:=HST.out.free _ _ hca.1 hca.2;have HPUT:Hid (Stn lo hi wz (wr.setCell ⟨g1,m*5+2,none⟩ (.int .i64 (wrap64 (z1+1))))):=Lib.hid (HST.out.put hca.1 hg1 hg2 _);have HSL:Hid (∀W,Stn lo hi wz W→W.cell? ⟨g1,m*5+4,none⟩=some (.slice ta y.tg.length tc')):=Lib.hid (fun W h=>h.rest _ _ hcb.1 (fun z e=>by cases e));have HNE:Hid (n0≠g1):=Lib.hid (by have:=HGE.out;omega);have j1:(0:Int)≤(m:Int):=by omega
         have j2:(m:Int)<(l'.length:Int):=by omega
         clear hy hca hcb hg1 hg2 hg3 htw
         go_upto_region 23 with fail
         obtain⟨wo,hwo⟩:∃W,W=wr.setCell ⟨g1,m*5+2,none⟩ (.int .i64 (wrap64 (z1+1))):=⟨_,rfl⟩
         rw[←hwo];replace HST:Hid (Stn lo hi wz wo):=Lib.hid (by rw[hwo];exact HPUT.out);replace HC:Hid (Ro wo n0 _ 30):=Lib.hid (by rw[hwo];exact Ro.onlS (S:=[g1]) HC.out (Onl.setCell (Onl.refl _ _) (.inl (by simp)) _) (by have:=HNE.out;simpa using this));clear hwo hz1 hz2 HPUT;go_wp2_with fail
         go_loopw [10] (fun v wr=>StI wz lo hi n0 #[.slice sta B.st.length stc,.slice qua B.qu.length quc] y.tg.length v wr) (fun v _=>y.tg.length-(intOf v).toNat)
         case atStart=>exact⟨0,by omega,rfl,HST.out,HC.out⟩
         case round=>
          obtain⟨k,hk,rfl,hst,hc⟩:=hrel
          replace HST:=Lib.hid hst;replace HC:=Lib.hid hc;have csl:=HSL.out wr hst;clear hst hc
          by_cases hkl:k<y.tg.length
          ·obtain⟨x,hx⟩:∃x,y.tg[k]? =some x:=⟨_,List.getElem?_eq_getElem hkl⟩
           obtain⟨g0,cap,hv,hg1,hg2,hg3⟩:=(HTW.out.ox (by omega)).pos (by omega)
           simp only[Value.slice.injEq] at hv
           obtain⟨rfl,hzz,rfl⟩:=hv
           clear hzz;have hcc:=(HTW.out.ox (by omega)).at (fun _ _=>rfl) hx (j:=0) (u:= .int .i64 x.id) rfl (k*2) (by omega)
           obtain⟨z1,hz1⟩:=HST.out.ints _ _ hcc.1
           have hz2:=HST.out.free _ _ hcc.1 hcc.2;have HPUT:Hid (Stn lo hi wz (wr.setCell ⟨g0,k*2,none⟩ (.int .i64 (wrap64 (z1+1))))):=Lib.hid (HST.out.put hcc.1 hg1 hg2 _);have HCP:Hid (Ro (wr.setCell ⟨g0,k*2,none⟩ (.int .i64 (wrap64 (z1+1)))) n0 #[.slice sta B.st.length stc,.slice qua B.qu.length quc] 30):=Lib.hid (Ro.onlS (S:=[g0]) HC.out (Onl.setCell (Onl.refl _ _) (.inl (by simp)) _) (by have:=HGE.out;simp;omega));have k1:(0:Int)≤(k:Int):=by omega
           have k2:(k:Int)<(y.tg.length:Int):=by omega
           clear hx hcc hg1 hg2 hg3;go_wp2_with fail
           go_roundw
           case rel=>exact⟨k+1,by omega,by go_num,HPUT.out,HCP.out⟩
           case measure=>simp[intOf];omega
          ·go_wp2_with fail
           go_roundw
           case rel=>exact⟨m+1,by omega,by go_num,HST.out,HC.out⟩
           case measure=>simp[intOf];omega
        ·go_wp2_with fail
         go_roundw
         case rel=>exact⟨i+1,by omega,by go_num,HST.out,HC.out⟩
         case measure=>simp[intOf];omega
      ·clear hc
       go_wp2_with fail
       go_loopw [11] (fun v wr=>StR wz lo hi B.att.length v wr) (fun v _=>B.att.length-(intOf v).toNat)
       case atStart=>exact⟨0,by omega,rfl,HST.out⟩
       case round=>
        obtain⟨k,hk,rfl,hst⟩:=hrel
        replace HST:=Lib.hid hst;have ca:wr.cell? ⟨w.heap.size,31,none⟩=some (.slice aa B.att.length ac):=by rw[(HBX.out _ hst).cell 31,←HVa.out];rfl
        clear hst
        by_cases hkl:k<B.att.length
        ·obtain⟨x,hx⟩:∃x,B.att[k]? =some x:=⟨_,List.getElem?_eq_getElem hkl⟩
         obtain⟨g0,cap,hv,hg1,hg2,hg3⟩:=HRa.out.pos (by omega)
         simp only[Value.slice.injEq] at hv
         obtain⟨rfl,hzz,rfl⟩:=hv
         clear hzz;have hcc:=HRa.out.at (fun _ _=>rfl) hx (j:=0) (u:= .int .i64 (x)) rfl (k) (by omega)
         obtain⟨z1,hz1⟩:=HST.out.ints _ _ hcc.1
         have hz2:=HST.out.free _ _ hcc.1 hcc.2;have HPUT:Hid (Stn lo hi wz (wr.setCell ⟨g0,k,none⟩ (.int .i64 (wrap64 (z1+1))))):=Lib.hid (HST.out.put hcc.1 hg1 hg2 _);have i1:(0:Int)≤(k:Int):=by omega
         have i2:(k:Int)<(B.att.length:Int):=by omega
         clear hx hcc hg1 hg2 hg3;go_wp2_with fail
         go_roundw
         case rel=>exact⟨k+1,by omega,by go_num,HPUT.out⟩
         case measure=>simp[intOf];omega
        ·go_wp2_with fail
         clear hkl hk
         go_loopw [12] (fun v wr=>StR wz lo hi B.bl.length v wr) (fun v _=>B.bl.length-(intOf v).toNat)
         case atStart=>exact⟨0,by omega,rfl,HST.out⟩
         case round=>
          obtain⟨k,hk,rfl,hst⟩:=hrel
          replace HST:=Lib.hid hst;have cb:wr.cell? ⟨w.heap.size,32,none⟩=some (.slice ba B.bl.length bc):=by rw[(HBX.out _ hst).cell 32,←HVb.out];rfl
          clear hst
          by_cases hkl:k<B.bl.length
          ·obtain⟨x,hx⟩:∃x,B.bl[k]? =some x:=⟨_,List.getElem?_eq_getElem hkl⟩
           obtain⟨g0,cap,hv,hg1,hg2,hg3⟩:=HRb.out.pos (by omega)
           simp only[Value.slice.injEq] at hv
           obtain⟨rfl,hzz,rfl⟩:=hv
           clear hzz;have hcc:=HRb.out.at (fun _ _=>rfl) hx (j:=0) (u:= .int .i64 (x.bl)) rfl (k*2) (by omega)
           obtain⟨z1,hz1⟩:=HST.out.ints _ _ hcc.1
           have hz2:=HST.out.free _ _ hcc.1 hcc.2;have HPUT:Hid (Stn lo hi wz (wr.setCell ⟨g0,k*2,none⟩ (.int .i64 (wrap64 (z1+1))))):=Lib.hid (HST.out.put hcc.1 hg1 hg2 _);have i1:(0:Int)≤(k:Int):=by omega
           have i2:(k:Int)<(B.bl.length:Int):=by omega
           clear hx hcc hg1 hg2 hg3;go_wp2_with fail
           go_roundw
           case rel=>exact⟨k+1,by omega,by go_num,HPUT.out⟩
           case measure=>simp[intOf];omega
          ·go_wp2_with fail
           clear hkl hk;go_returns
           exact⟨rfl,(Rng.of HB0.out).trans HST.out.rng⟩
end Go.Proofs.Ytgkgbpapfjjkcaa
namespace Go.Proofs.Ytgkgbpapfjjkcaa
open Go.RowKit Plain
set_option linter.unusedVariables false
set_option linter.unusedSimpArgs false

set_option maxRecDepth 100000 in
set_option maxHeartbeats 4000000 in
theorem gives(sx sw sf sb:Bs)(X B:Bd)(en:Int)(lo hi:Nat)(w:World)(hx:BdO lo hi w sx X)(hhi:hi≤w.heap.size)(hw:BdR w sw X)(hf:∀W,Rng lo hi w W→BdR W sf B)(hb:∀W,Rng lo hi w W→BdR W sb B):
  Calls Try.prog 17 #[bv sx X,.int .i64 en,bv sw X,.int .i64 en,bv sf B,bv sb B] w fun e w' =>e= .returned (.bool true)∧Rng lo hi w w':=by
 have HO:=Lib.hid hx;have HW:=Lib.hid hw;have HF:=Lib.hid hf;have HS:=Lib.hid hb;have HHI:=Lib.hid hhi;have te:(en==en)=true:=by simp
 clear hx hhi hw hf hb;go_enter Try.func17,Try.ntmps17
 go_upto_region 1 with fail
 change Code.wp Try.prog _ _ _ ((((w.alloc (.cells (bcells sx X) 34)).alloc (.cells (bcells sw X) 34)).alloc (.cells (bcells sf B) 34)).alloc (.cells (bcells sb B) 34))
 obtain⟨wz,hwz⟩:∃W,W=((((w.alloc (.cells (bcells sx X) 34)).alloc (.cells (bcells sw X) 34)).alloc (.cells (bcells sf B) 34)).alloc (.cells (bcells sb B) 34)):=⟨_,rfl⟩
 have b1:Below w.heap.size w (w.alloc (.cells (bcells sx X) 34)):=(Below.refl _ _).alloc (Nat.le_refl _) _;have b2:Below (w.alloc (.cells (bcells sx X) 34)).heap.size (w.alloc (.cells (bcells sx X) 34)) ((w.alloc (.cells (bcells sx X) 34)).alloc (.cells (bcells sw X) 34)):=(Below.refl _ _).alloc (Nat.le_refl _) _;have b3:Below ((w.alloc (.cells (bcells sx X) 34)).alloc (.cells (bcells sw X) 34)).heap.size ((w.alloc (.cells (bcells sx X) 34)).alloc (.cells (bcells sw X) 34)) (((w.alloc (.cells (bcells sx X) 34)).alloc (.cells (bcells sw X) 34)).alloc (.cells (bcells sf B) 34)):=(Below.refl _ _).alloc (Nat.le_refl _) _;have b4:Below (((w.alloc (.cells (bcells sx X) 34)).alloc (.cells (bcells sw X) 34)).alloc (.cells (bcells sf B) 34)).heap.size (((w.alloc (.cells (bcells sx X) 34)).alloc (.cells (bcells sw X) 34)).alloc (.cells (bcells sf B) 34)) wz:=by rw[hwz];exact(Below.refl _ _).alloc (Nat.le_refl _) _
 have HX0:Hid (Bx wz w.heap.size sx X):=Lib.hid (((Bx.below (w:=(w.alloc (.cells (bcells sx X) 34))) (heap_alloc_new _ _) b2).below b3).below b4);have HX1:Hid (Bx wz (w.heap.size+1) sw X):=Lib.hid ((Bx.below (w:=((w.alloc (.cells (bcells sx X) 34)).alloc (.cells (bcells sw X) 34))) (by show _=_;rw[show w.heap.size+1=(w.alloc (.cells (bcells sx X) 34)).heap.size by simp];exact heap_alloc_new _ _) b3).below b4);have HX2:Hid (Bx wz (w.heap.size+1+1) sf B):=Lib.hid (Bx.below (w:=(((w.alloc (.cells (bcells sx X) 34)).alloc (.cells (bcells sw X) 34)).alloc (.cells (bcells sf B) 34))) (by show _=_;rw[show w.heap.size+1+1=((w.alloc (.cells (bcells sx X) 34)).alloc (.cells (bcells sw X) 34)).heap.size by simp];exact heap_alloc_new _ _) b4);have HX3:Hid (Bx wz (w.heap.size+1+1+1) sb B):=Lib.hid (by rw[hwz];show _=_;rw[show w.heap.size+1+1+1=(((w.alloc (.cells (bcells sx X) 34)).alloc (.cells (bcells sw X) 34)).alloc (.cells (bcells sf B) 34)).heap.size by simp];exact heap_alloc_new _ _);have HB:Hid (Below w.heap.size w wz):=Lib.hid (below_via (below_via (below_via b1 b2) b3) b4);rw[←hwz];clear hwz b1 b2 b3 b4;go_wp2_with (first|(refine wpList_load_bx _ rfl rfl HX0.out (by kernel_rfl) ?_)|(refine wpList_load_bx _ rfl rfl HX1.out (by kernel_rfl) ?_))
 with_reducible refine(rsame sx sw X _ (HO.out.rd.below HB.out) (HW.out.below HB.out)).mono ?_
 rintro e w2 ⟨rfl,hb2⟩;replace HX0:=Lib.hid (HX0.out.below hb2);replace HX2:=Lib.hid (HX2.out.below hb2);replace HX3:=Lib.hid (HX3.out.below hb2);replace HB:=Lib.hid (below_via HB.out hb2);clear hb2;go_wp2_with (first|(refine wpList_load_bx _ rfl rfl HX2.out (by kernel_rfl) ?_)|(refine wpList_load_bx _ rfl rfl HX3.out (by kernel_rfl) ?_))
 with_reducible refine(rsame sf sb B _ (HF.out _ (Rng.of HB.out)) (HS.out _ (Rng.of HB.out))).mono ?_
 rintro e w3 ⟨rfl,hb2⟩;replace HX0:=Lib.hid (HX0.out.below hb2);replace HX2:=Lib.hid (HX2.out.below hb2);replace HX3:=Lib.hid (HX3.out.below hb2);replace HB:=Lib.hid (below_via HB.out hb2);clear hb2;go_wp2_with (first|(refine wpList_load_bx _ rfl rfl HX0.out (by kernel_rfl) ?_))
 with_reducible refine(stain sx X lo hi _ (HO.out.below HB.out) (Nat.le_trans HHI.out HB.out.size)).mono ?_
 rintro e w4 ⟨rfl,hr⟩;replace HX2:Hid (Bx w4 _ sf B):=Lib.hid ((hr.block _ HX2.out.lt (by have:=HHI.out;omega)).trans HX2.out);replace HX3:Hid (Bx w4 _ sb B):=Lib.hid ((hr.block _ HX3.out.lt (by have:=HHI.out;omega)).trans HX3.out);have HR:Hid (Rng lo hi w w4):=Lib.hid ((Rng.of HB.out).trans hr);clear hr HX0 HX1 HB;go_wp2_with (first|(refine wpList_load_bx _ rfl rfl HX2.out (by kernel_rfl) ?_)|(refine wpList_load_bx _ rfl rfl HX3.out (by kernel_rfl) ?_))
 with_reducible refine(rsame sf sb B _ (HF.out _ HR.out) (HS.out _ HR.out)).mono ?_
 rintro e w5 ⟨rfl,hb2⟩;replace HR:=Lib.hid (HR.out.grow hb2);clear hb2;go_wp2_with fail
 go_returns
 exact⟨rfl,HR.out⟩
end Go.Proofs.Ytgkgbpapfjjkcaa
namespace Go.Proofs.Ytgkgbpapfjjkcaa
open Go.RowKit Plain
set_option linter.unusedVariables false
set_option linter.unusedSimpArgs false

theorem givesV(sx sf sb:Bs)(B:Bd)(en:Int)(lo hi:Nat)(w:World){v:Value}(hv:bv nilS zeroB=v)(hx:BdO lo hi w sx zeroB)(hhi:hi≤w.heap.size)(hf:∀W,Rng lo hi w W→BdR W sf B)(hb:∀W,Rng lo hi w W→BdR W sb B):Calls Try.prog 17 #[bv sx zeroB,.int .i64 en,v,.int .i64 en,bv sf B,bv sb B] w fun e w' =>e= .returned (.bool true)∧Rng lo hi w w':=by
 subst hv;exact gives sx nilS sf sb zeroB B en lo hi w hx hhi (zeroOwn 0 0 _).rd hf hb
end Go.Proofs.Ytgkgbpapfjjkcaa
