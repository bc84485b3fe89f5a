/- Boards that share no memory, by the reference. -/
import Derived.Test.YtpbepnpnpopmfaaBCc
import Derived.Test.YtpbepnpnpopmfaaBRf
import Derived.Deep.DeepCutAuto
import Derived.LoopTactic
import Derived.Deep.MidRow
namespace Go.Proofs.Ytpbepnpnpopmfaa
open Go.RowKit Plain
set_option linter.unusedVariables false
set_option linter.unusedSimpArgs false

/-- append(nil, l...) -/
theorem wpList_append_nil{α:Type}{f:α→List Value}{sz:Nat}{P:Program}{w:World}{ops:Array Oper}{rest:List Oper}{o:Oper}{a:Act}{Q:Exit→Act→World→Prop}(hgd:o.guard=none)(s x:Operand)(t:TypeId)
  (ho:o.op= .call {callee:= .builtin .append,args:= #[s,x],argTypes:= #[t,t]})
  (e:TypeId) (z:Value) (bytes:Nat) (ht:P.underlying t=some (.slice e)) (hi:(P.info? e).map (fun i=>(i.zero,i.size,i.bytes))=some (some z,sz,bytes))
  (hzs:z.cells.size=sz) (hsz:0<sz) (hs:a.eval s= .slice none 0 0) (hf:∀x,(f x).length=sz∧∀u∈f x,u.oneCell' =true)
  (u:Value) (m:List α) (hx:a.eval x=u) (hm:Rw f sz w u m) (hl:m.length≤1000) (hby:bytes≤1000)
  (h:∀b c w',Ox f sz e w.heap.size w'.heap.size w' (.slice b m.length c) m→Below w.heap.size w w'→wpList P ops Q rest (a.put o.dst (.slice b m.length c)) w'):wpList P ops Q (o::rest) a w:=by
 refine wpList_append_ow hgd s x t ho w.heap.size e z bytes ht hi hzs hsz _ [] hs (Ow.nil _ _ _) hf u m hx hm (by simp[maxLen];omega) ?_ (Nat.le_refl _) ?_
 ·simp only[List.length_nil,Nat.zero_add]
  exact Nat.le_trans (Nat.mul_le_mul hl hby) (by omega)
 ·intro v' w' h1 h2 _
  rw[List.nil_append] at h1
  obtain⟨b,c,rfl⟩:=h1.form
  refine h b c w' (Ox.of h1) ⟨h2.os,h2.tape,h2.output,h2.size,fun k hk=>h2.block k hk (by simp[Value.ownBlock])⟩
theorem Rw.length{α:Type}{f:α→List Value}{sz:Nat}{w:World}{a:Option Addr}{n c:Nat}{l:List α}(h:Rw f sz w (.slice a n c) l):n=l.length:=by
 obtain⟨_,_,_,h,_⟩:=h.form
 simp only[Value.slice.injEq] at h
 exact h.2.1
theorem Ro.free{w:World}{P:Nat}{C:Array Value}{t:TypeId}(h:Ro w P C t)(i:Nat):w.frozen? ⟨P,i,none⟩=false:=by
 unfold World.frozen?;rw[show w.heap[P]? =_ from h]
 simp
/-- the items that are copied so far -/
def RcL(w:World)(l':List (It×Sl))(ov i:Value)(wr:World):Prop:=∃(k:Nat) (m:List (It×Sl)),k≤l'.length∧i= .int .i64 k∧Below w.heap.size w wr∧m.map Prod.fst=(l'.take k).map Prod.fst∧Ox itc 5 45 w.heap.size wr.heap.size wr ov m∧∀x∈m,Ox tc 2 86 w.heap.size wr.heap.size wr x.2.v x.1.tg
set_option maxRecDepth 100000 in
set_option maxHeartbeats 4000000 in
theorem rcopied(v:Value)(l:List It)(w:World)(h:ItR w v l)(hl:l.length≤1000)(ht:∀x∈l,x.tg.length≤1000):Calls Try.prog 48 #[v] w (ItA w l):=by
 obtain⟨l',rfl,hr,htg⟩:=h
 rw[List.length_map] at hl
 have HTG:=Lib.hid htg;have HTL:=Lib.hid ht
 obtain⟨_,a1,c1,rfl,hf⟩:=hr.form
 have HF:=Lib.hid hf;clear hr htg ht hf;go_enter Try.func48,Try.ntmps48;go_wp2_with fail
 go_loopw [3,4] (fun ov i wr=>RcL w l' ov i wr) (fun _ i _=>l'.length-(intOf i).toNat)
 case atStart=>exact⟨0,[],by omega,rfl,Below.refl _ _,rfl,Ox.nil _ _ _ _,by simp⟩
 case round=>
  obtain⟨k,m,hk,rfl,hb,hm,ho,hmt⟩:=hrel
  have HB:=Lib.hid hb;have HM:=Lib.hid hm;have HO:=Lib.hid ho;have HMT:=Lib.hid hmt;have hml:m.length=k:=by have:=congrArg List.length hm;simpa [Nat.min_eq_left hk] using this
  have HML:=Lib.hid hml
  obtain⟨oa,oc1,hov⟩:=ho.1.form
  rw[hml] at hov
  subst hov;clear hm ho hmt hml
  by_cases hkl:k<l'.length
  ·obtain⟨b0,off,rfl,hlt,hc⟩:=HF.out (by omega)
   obtain⟨y,hy⟩:∃y,l'[k]? =some y:=⟨_,List.getElem?_eq_getElem hkl⟩
   have HTY:Hid (Rw tc 2 w y.2.v y.1.tg):=Lib.hid (HTG.out y (List.mem_of_getElem? hy));have htl:y.1.tg.length≤1000:=HTL.out y.1 (List.mem_map.2 ⟨y,List.mem_of_getElem? hy,rfl⟩)
   obtain⟨x,⟨ta,tn,tc'⟩⟩:=y
   have hd:∀(j:Nat) (u:Value),(itc (x,⟨ta,tn,tc'⟩))[j]? =some u→wr.cell? ⟨b0,off+(k*5+j),none⟩=some u:=fun j u hu=>(hb.cell (p:=⟨b0,off+(k*5+j),none⟩) hlt).trans (hc k _ hy j u hu)
   have d0:wr.cell? ⟨b0,off+k*5,none⟩=some (.int .i64 x.pl):=hd 0 _ rfl;have d1:=cA hd 1 rfl;have d2:=cA hd 2 rfl;have d3:=cA hd 3 rfl;have d4:wr.cell? ⟨b0,off+k*5+4,none⟩=some (.slice ta tn tc'):=by rw[Nat.add_assoc];exact hd 4 _ rfl
   have i1:(0:Int)≤(k:Int):=by omega
   have i2:(k:Int)<(l'.length:Int):=by omega
   have HTW:Hid (Rw tc 2 w (.slice ta tn tc') x.tg):=Lib.hid HTY.out;have HY:=Lib.hid hy;clear hc hy hd hb HTY
   go_upto_region 6 with fail
   obtain⟨wq,hwq⟩:∃W,W=wr.alloc (.cells #[.int .i64 x.pl,.int .i64 x.id,.int .i64 x.cd,.int .i64 x.tr,.slice ta tn tc'] 45):=⟨_,rfl⟩
   rw[←hwq];have hqb:Below wr.heap.size wr wq:=by rw[hwq];exact(Below.refl _ _).alloc (Nat.le_refl _) _
   have hqs:wq.heap.size=wr.heap.size+1:=by rw[hwq];simp
   have hqr:Ro wq wr.heap.size #[.int .i64 x.pl,.int .i64 x.id,.int .i64 x.cd,.int .i64 x.tr,.slice ta tn tc'] 45:=by rw[hwq];exact Ro.new _ _ _
   clear hwq d0 d1 d2 d3 d4;have HQB:=Lib.hid hqb
   obtain⟨n0,hn0⟩:∃n,n=wr.heap.size:=⟨_,rfl⟩
   rw[←hn0] at hqr ⊢
   have hnl:n0<wq.heap.size:=by omega
   have q4:wq.cell? ⟨n0,4,none⟩=some (.slice ta tn tc'):=hqr.cell 4;have HQR:=Lib.hid hqr;have HN0:=Lib.hid hn0;clear hqb hqs hqr hn0;go_wp2_with (at_builtin;refine wpList_append_nil (f:=tc) (sz:=2) rfl _ _ 43 rfl 86 (.agg #[.int .i64 0,.int .i64 0]) 16 Try.underlying43 infoT rfl (by decide) rfl tc_ok _ x.tg rfl (HTW.out.below (below_via HB.out HQB.out)) htl (by omega) ?_)
   intro ua uc w6 ho6 hb6;have HR6:=Lib.hid (HQR.out.below hb6);have HO6:=Lib.hid ho6;have HB6:=Lib.hid hb6;have e4:w6.cell? ⟨n0,4,none⟩=some (.slice ta tn tc'):=HR6.out.cell 4;have g4:w6.frozen? ⟨n0,4,none⟩=false:=HR6.out.free 4;clear q4 ho6 hb6 hnl
   go_upto_region 7 with fail
   obtain⟨w7,hw7⟩:∃W,W=w6.setCell ⟨n0,4,none⟩ (.slice ua x.tg.length uc):=⟨_,rfl⟩
   rw[←hw7];have HR7:Hid (Ro w7 n0 #[.int .i64 x.pl,.int .i64 x.id,.int .i64 x.cd,.int .i64 x.tr,.slice ua x.tg.length uc] 45):=Lib.hid (by rw[hw7];exact heap_setCell_same w6 n0 4 _ 45 _ HR6.out);have HN7:Hid (Onl [n0] w6 w7):=Lib.hid (by rw[hw7];exact Onl.setCell (Onl.refl _ _) (.inl (by simp)) _);clear hw7 e4 g4;have f0:w7.cell? ⟨n0,0,none⟩=some (.int .i64 x.pl):=HR7.out.cell 0;have f1:w7.cell? ⟨n0,1,none⟩=some (.int .i64 x.id):=HR7.out.cell 1;have f2:w7.cell? ⟨n0,2,none⟩=some (.int .i64 x.cd):=HR7.out.cell 2;have f3:w7.cell? ⟨n0,3,none⟩=some (.int .i64 x.tr):=HR7.out.cell 3;have f4:w7.cell? ⟨n0,4,none⟩=some (.slice ua x.tg.length uc):=HR7.out.cell 4;have HB7:Hid (Below wr.heap.size wr w7):=Lib.hid (belowOnl (below_via HQB.out HB6.out) HN7.out (by have:=HN0.out;simp;omega) (Nat.le_trans HQB.out.size HB6.out.size));have HO7:Hid (Ox itc 5 45 w.heap.size wr.heap.size w7 (.slice oa k oc1) m):=Lib.hid (HO.out.below HB7.out);have HT7:Hid (Ox tc 2 86 w.heap.size w7.heap.size w7 (.slice ua x.tg.length uc) x.tg):=Lib.hid ((HO6.out.keep (fun q a b _=>HN7.out.block q b (by have h1:=HN0.out;have h2:=HQB.out.size;have h3:=HR6.out.lt;have h4:n0<wq.heap.size:=HQR.out.lt;simp;omega))).mono (Nat.le_trans HB.out.size HQB.out.size) HN7.out.size);have HM7:Hid (∀y∈m,Ox tc 2 86 w.heap.size w7.heap.size w7 y.2.v y.1.tg):=Lib.hid (fun y hy=>((HMT.out y hy).below HB7.out).mono (Nat.le_refl _) HB7.out.size);have hm2:m.length≤1000:=by have:=HML.out;omega
   go_wp2_with (at_builtin;refine wpList_append_ow (f:=itc) (sz:=5) rfl _ _ 30 rfl w.heap.size 45 (.agg #[.int .i64 0,.int .i64 0,.int .i64 0,.int .i64 0,.slice none 0 0]) 56 Try.underlying30 infoX rfl (by decide) _ m rfl (HO7.out.1.below ((Below.refl _ _).alloc (Nat.le_refl _) _)) itc_ok _ [((x,⟨ua,x.tg.length,uc⟩):It×Sl)] rfl (Rw.one2 (f:=itc) (sz:=5) w7 45 ((x,⟨ua,x.tg.length,uc⟩):It×Sl) #[.int .i64 x.pl,.int .i64 x.id,.int .i64 x.cd,.int .i64 x.tr,.slice ua x.tg.length uc] rfl 1 _ rfl) ?c2 ?c3 ?c4 ?_)
   case c2=>simp[maxLen];omega
   case c3=>simp;omega
   case c4=>
    have h1:=HB.out.size;have h2:=HB7.out.size
    simp
    omega
   intro v8 w8 ho8 hg8 hv8
   obtain⟨va,vc,rfl⟩:=ho8.form
   have hmk:(m++[(x,(⟨ua,x.tg.length,uc⟩:Sl))]).length=k+1:=by rw[List.length_append,HML.out];rfl
   rw[hmk] at ho8 hv8 ⊢
   have HREL:Hid (RcL w l' (.slice va (k+1) vc) (.int .i64 ((k+1:Nat):Int)) w8):=Lib.hid (by
    have hsz:w7.heap.size≤w8.heap.size:=Nat.le_trans (by simp) hg8.size;have hlo:∀q,(Value.slice oa k oc1).ownBlock=some q→w.heap.size≤q:=fun q hq=>(HO7.out.blk hq).1
    have hk8:∀{v:Value} {t:List Tg},Ox tc 2 86 w.heap.size w7.heap.size w7 v t→Ox tc 2 86 w.heap.size w8.heap.size w8 v t:=fun h=>
     (h.keep (fun q a b hq=>(hg8.block q (Nat.lt_of_lt_of_le b (by simp)) (fun e=>by
      obtain⟨_,_,c1,h1⟩:=h.1.typ _ hq
      obtain⟨_,_,c2,h2⟩:=HO7.out.1.typ q e.symm
      rw[h1] at h2
      simp at h2)).trans (((Below.refl _ w7).alloc (Nat.le_refl _) _).block q b))).mono (Nat.le_refl _) hsz
    refine⟨k+1,_,by omega,rfl,?_,?_,Ox.of ho8,fun y hy=> ?_⟩
    ·exact((below_via HB.out HB7.out).alloc (Nat.le_trans HB.out.size HB7.out.size) _).grown hg8 (by have h1:=HB.out.size;have h2:=HB7.out.size;simp;omega) (fun q hq=>hlo q hq)
    ·rw[List.map_append,HM.out,List.take_add_one,HY.out,List.map_append];rfl
    ·rcases List.mem_append.1 hy with h1|h1
     ·exact hk8 (HM7.out y h1)
     ·simp at h1
      subst h1;exact hk8 HT7.out)
   clear ho8 hg8 hv8 hmk f0 f1 f2 f3 f4 hm2 htl;go_wp2_with fail
   go_roundw
   case rel=>exact(by go_num:(Value.int .i64 ((k+1:Nat):Int))=_)▸HREL.out
   case measure=>simp[intOf];omega
  ·have hke:k=l'.length:=by omega
   go_wp2_with fail
   go_returns
   refine⟨oa,oc1,by rw[List.length_map,hke];rfl,⟨m,?_,?_,fun x hx=> .inl (HMT.out x hx)⟩,HB.out⟩
   ·rw[HM.out,hke,List.take_length]
   ·rw[List.length_map,←hke];exact HO.out
end Go.Proofs.Ytpbepnpnpopmfaa
