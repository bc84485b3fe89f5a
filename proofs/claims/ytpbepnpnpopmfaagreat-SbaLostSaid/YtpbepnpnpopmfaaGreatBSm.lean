/- Boards that share no memory, by the reference. Lists and items that are equal, by the reference: of equal ones it says so. -/
import Derived.Test.YtpbepnpnpopmfaaGreatBCc
import Derived.Test.YtpbepnpnpopmfaaGreatBRf
import Derived.Deep.DeepCutAuto
import Derived.LoopTactic
import Derived.Deep.MidRow
open Go.RowKit Go.Proofs.YtpbepnpnpopmfaaGreat
set_option maxRecDepth 100000
set_option maxHeartbeats 4000000
namespace Go.Proofs.YtpbepnpnpopmfaaGreat
open Plain
set_option linter.unusedVariables false
set_option linter.unusedSimpArgs false

theorem wpList_append_nil{α:Type}{f:α->List Value}{sz:Nat}{P:Program}{w:World}{ops:Array Oper}{rest:List Oper}{o:Oper}{a:Act}{Q:Exit->Act->World->Prop}(hgd:o.guard=none)(s x:Operand)(t:TypeId)
  (ho:o.op= .call {callee:= .builtin .append,args:= #[s,x],argTypes:= #[t,t]})
  (e:TypeId) (z:Value) (bytes:Nat) (ht:P.underlying t=some (.slice e)) (hi:(P.info? e).map (fun i=>(i.zero,i.size,i.bytes))=some (some z,sz,bytes))
  (hzs:z.cells.size=sz) (hsz:0<sz) (hs:a.eval s= .slice none 0 0) (hf:∀x,(f x).length=sz/\∀u∈f x,u.oneCell' =true)
  (u:Value) (m:List α) (hx:a.eval x=u) (hm:Rw f sz w u m) (hl:m.length<=1000) (hby:bytes<=1000)
  (h:∀b c w',Ox f sz e w.heap.size w'.heap.size w' (.slice b m.length c) m->Below w.heap.size w w'->wpList P ops Q rest (a.put o.dst (.slice b m.length c)) w'):wpList P ops Q (o::rest) a w:=by
 refine wpList_append_ow hgd s x t ho w.heap.size e z bytes ht hi hzs hsz _ [] hs (Ow.nil _ _ _) hf u m hx hm (by simp[maxLen];omega) ?_ (Nat.le_refl _) ?_
 ·simp only[List.length_nil,Nat.zero_add]
  exact Nat.le_trans (Nat.mul_le_mul hl hby) (by omega)
 intro v' w' h1 h2 _;rw[List.nil_append] at h1
 obtain⟨b,c,rfl⟩:=h1.form
 refine h b c w' (Ox.of h1) ⟨h2.os,h2.tape,h2.output,h2.size,fun k hk=>h2.block k hk (by simp[Value.ownBlock])⟩
theorem Rw.length{α:Type}{f:α->List Value}{sz:Nat}{w:World}{a:Option Addr}{n c:Nat}{l:List α}(h:Rw f sz w (.slice a n c) l):n=l.length:=by
 obtain⟨_,_,_,h,_⟩:=h.form
 simp only[Value.slice.injEq] at h
 exact h.2.1
theorem Ro.free{w:World}{P:Nat}{C:Array Value}{t:TypeId}(h:Ro w P C t)(i:Nat):w.frozen? ⟨P,i,none⟩=false:=by
 unfold World.frozen?;rw[show w.heap[P]? =_ from h]
 simp
def RcL(w:World)(l':List (It×Sl))(ov i:Value)(wr:World):Prop:=∃(k:Nat) (m:List (It×Sl)),k<=l'.length/\i= .int .i64 k/\Below w.heap.size w wr/\m.map Prod.fst=(l'.take k).map Prod.fst/\Ox itc 5 73 w.heap.size wr.heap.size wr ov m/\∀x∈m,Ox tc 2 98 w.heap.size wr.heap.size wr x.2.v x.1.tg
theorem rcopied(v:Value)(l:List It)(w:World)(h:ItR w v l)(hl:l.length<=1000)(ht:∀x∈l,x.tg.length<=1000):Calls Tryz.prog 39 #[v] w (ItA w l):=by
 obtain⟨l',rfl,hr,htg⟩:=h
 rw[List.length_map] at hl
 have HTG:=Hd htg;have HTL:=Hd ht
 obtain⟨_,a1,c1,rfl,hf⟩:=hr.form
 have HF:=Hd hf;clear hr htg ht hf;go_enter Tryz.func39,Tryz.ntmps39;go_wp2_with fail
 go_loopw [3,4] (fun ov i wr=>RcL w l' ov i wr) (fun _ i _=>l'.length-(intOf i).toNat)
 case atStart=>exact⟨0,[],by omega,rfl,Below.refl _ _,rfl,Ox.nil _ _ _ _,by simp⟩
 obtain⟨k,m,hk,rfl,hb,hm,ho,hmt⟩:=hrel
 have HB:=Hd hb;have HM:=Hd hm;have HO:=Hd ho;have HMT:=Hd hmt;have hml:m.length=k:=by have:=congrArg List.length hm;simpa [Nat.min_eq_left hk] using this
 have HML:=Hd hml
 obtain⟨oa,oc1,hov⟩:=ho.1.form
 rw[hml] at hov
 subst hov;clear hm ho hmt hml
 by_cases hkl:k<l'.length
 ·obtain⟨b0,off,rfl,hlt,hc⟩:=HF.o (by omega)
  obtain⟨y,hy⟩:∃y,l'[k]? =some y:=⟨_,List.getElem?_eq_getElem hkl⟩
  have HTY:Hid (Rw tc 2 w y.2.v y.1.tg):=Hd (HTG.o y (List.mem_of_getElem? hy));have htl:y.1.tg.length<=1000:=HTL.o y.1 (List.mem_map.2 ⟨y,List.mem_of_getElem? hy,rfl⟩)
  obtain⟨x,⟨ta,tn,tc'⟩⟩:=y
  have hd:∀(j:Nat) (u:Value),(itc (x,⟨ta,tn,tc'⟩))[j]? =some u->wr.cell? ⟨b0,off+(k*5+j),none⟩=some u:=fun j u hu=>(hb.cell (p:=⟨b0,off+(k*5+j),none⟩) hlt).trans (hc k _ hy j u hu)
  have d0:wr.cell? ⟨b0,off+k*5,none⟩=some (.int .i64 x.pl):=hd 0 _ rfl;have d1:=cA hd 1 rfl;have d2:=cA hd 2 rfl;have d3:=cA hd 3 rfl;have d4:wr.cell? ⟨b0,off+k*5+4,none⟩=some (.slice ta tn tc'):=by rw[Nat.add_assoc];exact hd 4 _ rfl
  have i1:(0:Int)<=(k:Int):=by omega
  have i2:(k:Int)<(l'.length:Int):=by omega
  have HTW:Hid (Rw tc 2 w (.slice ta tn tc') x.tg):=Hd HTY.o;have HY:=Hd hy;clear hc hy hd hb HTY
  go_upto_region 6 with fail
  obtain⟨wq,hwq⟩:∃W,W=wr.alloc (.cells #[.int .i64 x.pl,.int .i64 x.id,.int .i64 x.cd,.int .i64 x.tr,.slice ta tn tc'] 73):=⟨_,rfl⟩
  rw[<-hwq];have hqb:Below wr.heap.size wr wq:=by rw[hwq];exact(Below.refl _ _).alloc (Nat.le_refl _) _
  have hqs:wq.heap.size=wr.heap.size+1:=by rw[hwq];simp
  have hqr:Ro wq wr.heap.size #[.int .i64 x.pl,.int .i64 x.id,.int .i64 x.cd,.int .i64 x.tr,.slice ta tn tc'] 73:=by rw[hwq];exact Ro.new _ _ _
  clear hwq d0 d1 d2 d3 d4;have HQB:=Hd hqb
  obtain⟨n0,hn0⟩:∃n,n=wr.heap.size:=⟨_,rfl⟩
  rw[<-hn0] at hqr ⊢
  have hnl:n0<wq.heap.size:=by omega
  have q4:wq.cell? ⟨n0,4,none⟩=some (.slice ta tn tc'):=hqr.cell 4;have HQR:=Hd hqr;have HN0:=Hd hn0;clear hqb hqs hqr hn0;go_wp2_with (at_builtin;refine wpList_append_nil (f:=tc) (sz:=2) rfl _ _ 71 rfl 98 (.agg #[.int .i64 0,.int .i64 0]) 16 Tryz.underlying71 infoT rfl (by decide) rfl tc_ok _ x.tg rfl (HTW.o.below (below_via HB.o HQB.o)) htl (by omega) ?_)
  intro ua uc w6 ho6 hb6;have HR6:=Hd (HQR.o.below hb6);have HO6:=Hd ho6;have HB6:=Hd hb6;have e4:w6.cell? ⟨n0,4,none⟩=some (.slice ta tn tc'):=HR6.o.cell 4;have g4:w6.frozen? ⟨n0,4,none⟩=false:=HR6.o.free 4;clear q4 ho6 hb6 hnl
  go_upto_region 7 with fail
  obtain⟨w7,hw7⟩:∃W,W=w6.setCell ⟨n0,4,none⟩ (.slice ua x.tg.length uc):=⟨_,rfl⟩
  rw[<-hw7];have HR7:Hid (Ro w7 n0 #[.int .i64 x.pl,.int .i64 x.id,.int .i64 x.cd,.int .i64 x.tr,.slice ua x.tg.length uc] 73):=Hd (by rw[hw7];exact heap_setCell_same w6 n0 4 _ 73 _ HR6.o);have HN7:Hid (Onl [n0] w6 w7):=Hd (by rw[hw7];exact Onl.setCell (Onl.refl _ _) (.inl (by simp)) _);clear hw7 e4 g4;have f0:w7.cell? ⟨n0,0,none⟩=some (.int .i64 x.pl):=HR7.o.cell 0;have f1:w7.cell? ⟨n0,1,none⟩=some (.int .i64 x.id):=HR7.o.cell 1;have f2:w7.cell? ⟨n0,2,none⟩=some (.int .i64 x.cd):=HR7.o.cell 2;have f3:w7.cell? ⟨n0,3,none⟩=some (.int .i64 x.tr):=HR7.o.cell 3;have f4:w7.cell? ⟨n0,4,none⟩=some (.slice ua x.tg.length uc):=HR7.o.cell 4;have HB7:Hid (Below wr.heap.size wr w7):=Hd (belowOnl (below_via HQB.o HB6.o) HN7.o (by have:=HN0.o;simp;omega) (Nat.le_trans HQB.o.size HB6.o.size));have HO7:Hid (Ox itc 5 73 w.heap.size wr.heap.size w7 (.slice oa k oc1) m):=Hd (HO.o.below HB7.o);have HT7:Hid (Ox tc 2 98 w.heap.size w7.heap.size w7 (.slice ua x.tg.length uc) x.tg):=Hd ((HO6.o.keep (fun q a b _=>HN7.o.block q b (by have h1:=HN0.o;have h2:=HQB.o.size;have h3:=HR6.o.lt;have h4:n0<wq.heap.size:=HQR.o.lt;simp;omega))).mono (Nat.le_trans HB.o.size HQB.o.size) HN7.o.size);have HM7:Hid (∀y∈m,Ox tc 2 98 w.heap.size w7.heap.size w7 y.2.v y.1.tg):=Hd (fun y hy=>((HMT.o y hy).below HB7.o).mono (Nat.le_refl _) HB7.o.size);have hm2:m.length<=1000:=by have:=HML.o;omega
  go_wp2_with (at_builtin;refine wpList_append_ow (f:=itc) (sz:=5) rfl _ _ 30 rfl w.heap.size 73 (.agg #[.int .i64 0,.int .i64 0,.int .i64 0,.int .i64 0,.slice none 0 0]) 56 Tryz.underlying30 infoX rfl (by decide) _ m rfl (HO7.o.1.below ((Below.refl _ _).alloc (Nat.le_refl _) _)) itc_ok _ [((x,⟨ua,x.tg.length,uc⟩):It×Sl)] rfl (Rw.one2 (f:=itc) (sz:=5) w7 73 ((x,⟨ua,x.tg.length,uc⟩):It×Sl) #[.int .i64 x.pl,.int .i64 x.id,.int .i64 x.cd,.int .i64 x.tr,.slice ua x.tg.length uc] rfl 1 _ rfl) ?c2 ?c3 ?c4 ?_)
  case c2=>simp[maxLen];omega
  case c3=>simp;omega
  case c4=>
   have h1:=HB.o.size;have h2:=HB7.o.size
   simp
   omega
  intro v8 w8 ho8 hg8 hv8
  obtain⟨va,vc,rfl⟩:=ho8.form
  have hmk:(m++[(x,(⟨ua,x.tg.length,uc⟩:Sl))]).length=k+1:=by rw[List.length_append,HML.o];rfl
  rw[hmk] at ho8 hv8 ⊢
  have HREL:Hid (RcL w l' (.slice va (k+1) vc) (.int .i64 ((k+1:Nat):Int)) w8):=Hd (by
   have hsz:w7.heap.size<=w8.heap.size:=Nat.le_trans (by simp) hg8.size;have hlo:∀q,(Value.slice oa k oc1).ownBlock=some q->w.heap.size<=q:=fun q hq=>(HO7.o.blk hq).1
   have hk8:∀{v:Value} {t:List Tg},Ox tc 2 98 w.heap.size w7.heap.size w7 v t->Ox tc 2 98 w.heap.size w8.heap.size w8 v t:=fun h=>
    (h.keep (fun q a b hq=>(hg8.block q (Nat.lt_of_lt_of_le b (by simp)) (fun e=>by
     obtain⟨_,_,c1,h1⟩:=h.1.typ _ hq
     obtain⟨_,_,c2,h2⟩:=HO7.o.1.typ q e.symm
     rw[h1] at h2
     simp at h2)).trans (((Below.refl _ w7).alloc (Nat.le_refl _) _).block q b))).mono (Nat.le_refl _) hsz
   refine⟨k+1,_,by omega,rfl,?_,?_,Ox.of ho8,fun y hy=> ?_⟩
   ·exact((below_via HB.o HB7.o).alloc (Nat.le_trans HB.o.size HB7.o.size) _).grown hg8 (by have h1:=HB.o.size;have h2:=HB7.o.size;simp;omega) (fun q hq=>hlo q hq)
   ·rw[List.map_append,HM.o,List.take_add_one,HY.o,List.map_append];rfl
   rcases List.mem_append.1 hy with h1|h1
   ·exact hk8 (HM7.o y h1)
   simp at h1
   subst h1;exact hk8 HT7.o)
  clear ho8 hg8 hv8 hmk f0 f1 f2 f3 f4 hm2 htl;go_wp2_with fail
  go_roundw
  case rel=>exact(by go_num:(Value.int .i64 ((k+1:Nat):Int))=_)▸HREL.o
  case measure=>simp[intOf];omega
 have hke:k=l'.length:=by omega
 go_wp2_with fail
 go_returns
 refine⟨oa,oc1,by rw[List.length_map,hke];rfl,⟨m,?_,?_,fun x hx=> .inl (HMT.o x hx)⟩,HB.o⟩
 ·rw[HM.o,hke,List.take_length]
 rw[List.length_map,<-hke];exact HO.o
end Go.Proofs.YtpbepnpnpopmfaaGreat
namespace Go.Proofs.YtpbepnpnpopmfaaGreat
open Plain
set_option linter.unusedVariables false
set_option linter.unusedSimpArgs false

theorem rg16_6{P:Program}{B n:Nat}{w0:World}{L:List (Nat×Nat×Value)}{E F:World->Prop}{id:Nat}{Q:Exit->Act->World->Prop}{a:Act}{w:World}{A:Array Oper}{o0 o1 o2 o3 o4 o5 o6 o7 o8:Oper}(hm:P.follows .mixedOrders=true)(hA:A=[o0,o1,o2,o3,o4,o5,o6,o7,o8].toArray)(hB:regOk A [3,7] [0,1,2,4,5,6,8] (.fs [0,1,2,4,5,6] (.rs [3,7] (.fs [8] .done)))=true)(c:RC B w0 n L E F w)
  (h:∀wk,Kept B w0 n L wk->E wk->F wk->wpQuiet P A (fun _=>True) (fun a0=>wpQuiet P A (fun w' =>∃s:KX B w0 n L E,w' =s.val) (fun a1=>wpQuiet P A (fun _=>True) (fun a2=>Q .normal a2 wk) [o8] a1) [o3,o7] a0) [o0,o1,o2,o4,o5,o6] a):(Code.region id A true).wp P Q a w:=by
 subst hA;exact wp_reg _ _ _ hm hB c (fun wk k e f=>have g:=h wk k e f;Scr.of_fs _ _ rfl g fun _ g=>Scr.of_rs _ _ rfl g fun _ g=>Scr.of_fs _ _ rfl g fun _ g=>g)
theorem rg72_6{P:Program}{B n:Nat}{w0:World}{L:List (Nat×Nat×Value)}{E F:World->Prop}{id:Nat}{Q:Exit->Act->World->Prop}{a:Act}{w:World}{A:Array Oper}{o0 o1 o2 o3 o4 o5 o6 o7 o8 o9 o10:Oper}(hm:P.follows .mixedOrders=true)(hA:A=[o0,o1,o2,o3,o4,o5,o6,o7,o8,o9,o10].toArray)(hB:regOk A [1,4,6,9] [0,2,3,5,7,8,10] (.fs [0,2,5,7] (.rs [1] (.fs [3] (.rs [4,6] (.fs [8] (.rs [9] (.fs [10] .done)))))))=true)(c:RC B w0 n L E F w)
  (h:∀wk,Kept B w0 n L wk->E wk->F wk->wpQuiet P A (fun _=>True) (fun a0=>wpQuiet P A (fun w' =>∃s:KX B w0 n L E,w' =s.val) (fun a1=>wpQuiet P A (fun _=>True) (fun a2=>wpQuiet P A (fun w' =>∃s:KX B w0 n L E,w' =s.val) (fun a3=>wpQuiet P A (fun _=>True) (fun a4=>wpQuiet P A (fun w' =>∃s:KX B w0 n L E,w' =s.val) (fun a5=>wpQuiet P A (fun _=>True) (fun a6=>Q .normal a6 wk) [o10] a5) [o9] a4) [o8] a3) [o4,o6] a2) [o3] a1) [o1] a0) [o0,o2,o5,o7] a):(Code.region id A true).wp P Q a w:=by
 subst hA;exact wp_reg _ _ _ hm hB c (fun wk k e f=>have g:=h wk k e f;Scr.of_fs _ _ rfl g fun _ g=>Scr.of_rs _ _ rfl g fun _ g=>Scr.of_fs _ _ rfl g fun _ g=>Scr.of_rs _ _ rfl g fun _ g=>Scr.of_fs _ _ rfl g fun _ g=>Scr.of_rs _ _ rfl g fun _ g=>Scr.of_fs _ _ rfl g fun _ g=>g)
theorem rg38_6{P:Program}{B n:Nat}{w0:World}{L:List (Nat×Nat×Value)}{E F:World->Prop}{id:Nat}{Q:Exit->Act->World->Prop}{a:Act}{w:World}{A:Array Oper}{o0 o1 o2 o3 o4 o5 o6 o7 o8 o9:Oper}(hm:P.follows .mixedOrders=true)(hA:A=[o0,o1,o2,o3,o4,o5,o6,o7,o8,o9].toArray)(hB:regOk A [3,7] [0,1,2,4,5,6,9] (.fs [0,1,2,4,5,6] (.rs [3,7] (.altc 8 (.fs [9] .done) .stop)))=true)(c:RC B w0 n L E F w)
  (h:∀wk,Kept B w0 n L wk->E wk->F wk->wpQuiet P A (fun _=>True) (fun a0=>wpQuiet P A (fun w' =>∃s:KX B w0 n L E,w' =s.val) (fun a1=>((∀K2:Act->World->Prop,(∀a2 w2,wpQuiet P A (fun _=>True) (fun a3=>Q .normal a3 w2) [o9] a2->K2 a2 w2)->wpList P A (fun e a2 w2=>e= .normal/\K2 a2 w2) [o8] a1 wk)/\True)) [o3,o7] a0) [o0,o1,o2,o4,o5,o6] a):(Code.region id A true).wp P Q a w:=by
 subst hA;exact wp_reg _ _ _ hm hB c (fun wk k e f=>have g:=h wk k e f;Scr.of_fs _ _ rfl g fun _ g=>Scr.of_rs _ _ rfl g fun _ g=>(Scr.of_altc rfl (g.1 _ fun _ _ g=>g) (fun _ _ g=>Scr.of_fs _ _ rfl g fun _ g=>g) trivial))
def LsL(w:World)(n:Nat)(i:Value)(wr:World):Prop:=∃k:Nat,k<=n/\i= .int .i64 k/\Below w.heap.size w wr
theorem rints(v1 v2:Value)(l:List Int)(w:World)(h1:Rw ic 1 w v1 l)(h2:Rw ic 1 w v2 l):Calls Tryz.prog 16 #[v1,v2] w fun e w' =>e= .returned (.bool true)/\Below w.heap.size w w':=by
 obtain⟨hm,a1,c1,rfl,hf1⟩:=h1.form
 obtain⟨_,a2,c2,rfl,hf2⟩:=h2.form
 have HF1:=Hd hf1;have HF2:=Hd hf2;clear h1 h2 hf1 hf2;have hne:(l.length !=l.length)=false:=by simp
 have hne2:((l.length:Int) !=(l.length:Int))=false:=by simp
 go_enter Tryz.func16,Tryz.ntmps16;go_wp2_with fail
 go_loopw [5] (fun i wr=>LsL w l.length i wr) (fun i _=>l.length-(intOf i).toNat)
 case atStart=>exact⟨0,by omega,rfl,Below.refl _ _⟩
 obtain⟨k,hk,rfl,hb⟩:=hrel
 have HB:=Hd hb
 by_cases hkl:k<l.length
 ·obtain⟨b1,o1,rfl,hlt1,hc1⟩:=HF1.o (by omega)
  obtain⟨b2,o2,rfl,hlt2,hc2⟩:=HF2.o (by omega)
  obtain⟨x,hx⟩:∃x,l[k]? =some x:=⟨_,List.getElem?_eq_getElem hkl⟩
  have d1:wr.cell? ⟨b1,o1+k,none⟩=some (.int .i64 x):=(hb.cell (p:=⟨b1,o1+k,none⟩) hlt1).trans (by have:=hc1 k x hx 0 _ rfl;simpa using this);have d2:wr.cell? ⟨b2,o2+k,none⟩=some (.int .i64 x):=(hb.cell (p:=⟨b2,o2+k,none⟩) hlt2).trans (by have:=hc2 k x hx 0 _ rfl;simpa using this);have g1:b1<wr.heap.size:=Nat.lt_of_lt_of_le hlt1 hb.size;have g2:b2<wr.heap.size:=Nat.lt_of_lt_of_le hlt2 hb.size;have i1:(0:Int)<=(k:Int):=by omega
  have i2:(k:Int)<(l.length:Int):=by omega
  clear hc1 hc2 hx hb
  go_upto_region 6 with fail
  refine rg16_6 (w0:=wr) (B:=wr.heap.size) (n:=wr.heap.size) (L:=[]) (by kernel_rfl) rfl (by kernel_rfl) (.t ⟨by go_grown,by go_size,(by simp[go_sem]<;>omega)⟩) (fun w21 K_w21 E_w21 F_w21=> ?_);have _ne:Nonempty (KX (wr.heap.size) wr (wr.heap.size) [] (fun _=>True)):=⟨⟨_,K_w21,E_w21⟩⟩
  repeat (go_big_quiet_step (fail))
  refine wpQuiet_nil ?_;have ra:=rck _ne d1 g1;have rb:=rck _ne d2 g2
  repeat (go_big_quiet_step (fail))
  refine wpQuiet_nil ?_
  repeat (go_big_quiet_step (fail))
  refine wpQuiet_nil ?_;clear ra rb;clear _ne;have KH_w21:=Hd K_w21;have hw_w21:=K_w21.below;have hz_w21:=K_w21.size;clear K_w21;clear E_w21 F_w21;go_wp2_with fail
  replace HB:=Hd (below_via HB.o hw_w21)
  go_roundw
  case rel=>exact⟨k+1,by omega,by go_num,HB.o⟩
  case measure=>simp[intOf];omega
 clear hb;go_wp2_with fail
 go_returns
 exact⟨rfl,HB.o⟩
def SiL(w:World)(n:Nat)(C1 C2:Array Value)(i:Value)(wr:World):Prop:=∃k:Nat,k<=n/\i= .int .i64 k/\Below w.heap.size w wr/\Ro wr w.heap.size C1 73/\Ro wr (w.heap.size+1) C2 73
theorem rsameitem(a1 a2:Option Addr)(c1 c2:Nat)(x:It)(w:World)(h1:Rw tc 2 w (.slice a1 x.tg.length c1) x.tg)(h2:Rw tc 2 w (.slice a2 x.tg.length c2) x.tg):Calls Tryz.prog 72 #[.agg #[.int .i64 x.pl,.int .i64 x.id,.int .i64 x.cd,.int .i64 x.tr,.slice a1 x.tg.length c1],.agg #[.int .i64 x.pl,.int .i64 x.id,.int .i64 x.cd,.int .i64 x.tr,.slice a2 x.tg.length c2]] w fun e w' =>e= .returned (.bool true)/\Below w.heap.size w w':=by
 obtain⟨hm,b1,c1',hv1,hf1⟩:=h1.form
 obtain⟨_,b2,c2',hv2,hf2⟩:=h2.form
 simp only[Value.slice.injEq] at hv1 hv2
 obtain⟨rfl,hx1,rfl⟩:=hv1
 obtain⟨rfl,hx2,rfl⟩:=hv2
 clear hx1 hx2;have HF1:=Hd hf1;have HF2:=Hd hf2;clear h1 h2 hf1 hf2;have hne:(x.tg.length !=x.tg.length)=false:=by simp
 have hne2:((x.tg.length:Int) !=(x.tg.length:Int))=false:=by simp
 have t0:(x.pl !=x.pl)=false:=by simp
 have t1:(x.id !=x.id)=false:=by simp
 have t2:(x.cd !=x.cd)=false:=by simp
 have t3:(x.tr !=x.tr)=false:=by simp
 go_enter Tryz.func72,Tryz.ntmps72
 go_upto_region 1 with fail
 obtain⟨wz,hwz⟩:∃W,W=(w.alloc (.cells #[.int .i64 x.pl,.int .i64 x.id,.int .i64 x.cd,.int .i64 x.tr,.slice a1 x.tg.length c1] 73)).alloc (.cells #[.int .i64 x.pl,.int .i64 x.id,.int .i64 x.cd,.int .i64 x.tr,.slice a2 x.tg.length c2] 73):=⟨_,rfl⟩
 rw[<-hwz];have b1':Below w.heap.size w (w.alloc (.cells #[.int .i64 x.pl,.int .i64 x.id,.int .i64 x.cd,.int .i64 x.tr,.slice a1 x.tg.length c1] 73)):=(Below.refl _ _).alloc (Nat.le_refl _) _;have b2':Below (w.alloc (.cells #[.int .i64 x.pl,.int .i64 x.id,.int .i64 x.cd,.int .i64 x.tr,.slice a1 x.tg.length c1] 73)).heap.size (w.alloc (.cells #[.int .i64 x.pl,.int .i64 x.id,.int .i64 x.cd,.int .i64 x.tr,.slice a1 x.tg.length c1] 73)) wz:=by rw[hwz];exact(Below.refl _ _).alloc (Nat.le_refl _) _
 have HR1:Hid (Ro wz w.heap.size #[.int .i64 x.pl,.int .i64 x.id,.int .i64 x.cd,.int .i64 x.tr,.slice a1 x.tg.length c1] 73):=Hd ((Ro.new _ _ _).below b2');have HR2:Hid (Ro wz (w.heap.size+1) #[.int .i64 x.pl,.int .i64 x.id,.int .i64 x.cd,.int .i64 x.tr,.slice a2 x.tg.length c2] 73):=Hd (by rw[hwz,show w.heap.size+1=(w.alloc (.cells #[.int .i64 x.pl,.int .i64 x.id,.int .i64 x.cd,.int .i64 x.tr,.slice a1 x.tg.length c1] 73)).heap.size by simp];exact Ro.new _ _ _);have HB:Hid (Below w.heap.size w wz):=Hd (below_via b1' b2');clear hwz b1' b2';have k0:wz.cell? ⟨w.heap.size,0,none⟩=some (.int .i64 x.pl):=HR1.o.cell 0;have l0:wz.cell? ⟨w.heap.size+1,0,none⟩=some (.int .i64 x.pl):=HR2.o.cell 0;have k1:wz.cell? ⟨w.heap.size,1,none⟩=some (.int .i64 x.id):=HR1.o.cell 1;have l1:wz.cell? ⟨w.heap.size+1,1,none⟩=some (.int .i64 x.id):=HR2.o.cell 1;have k2:wz.cell? ⟨w.heap.size,2,none⟩=some (.int .i64 x.cd):=HR1.o.cell 2;have l2:wz.cell? ⟨w.heap.size+1,2,none⟩=some (.int .i64 x.cd):=HR2.o.cell 2;have k3:wz.cell? ⟨w.heap.size,3,none⟩=some (.int .i64 x.tr):=HR1.o.cell 3;have l3:wz.cell? ⟨w.heap.size+1,3,none⟩=some (.int .i64 x.tr):=HR2.o.cell 3;have k4:wz.cell? ⟨w.heap.size,4,none⟩=some (.slice a1 x.tg.length c1):=HR1.o.cell 4;have l4:wz.cell? ⟨w.heap.size+1,4,none⟩=some (.slice a2 x.tg.length c2):=HR2.o.cell 4;go_wp2_with fail
 clear k0 k1 k2 k3 k4 l0 l1 l2 l3 l4 t0 t1 t2 t3
 go_loopw [5] (fun i wr=>SiL w x.tg.length #[.int .i64 x.pl,.int .i64 x.id,.int .i64 x.cd,.int .i64 x.tr,.slice a1 x.tg.length c1] #[.int .i64 x.pl,.int .i64 x.id,.int .i64 x.cd,.int .i64 x.tr,.slice a2 x.tg.length c2] i wr) (fun i _=>x.tg.length-(intOf i).toNat)
 case atStart=>exact⟨0,by omega,rfl,HB.o,HR1.o,HR2.o⟩
 obtain⟨k,hk,rfl,hb,hr1,hr2⟩:=hrel
 replace HB:=Hd hb;replace HR1:=Hd hr1;replace HR2:=Hd hr2;have k4:wr.cell? ⟨w.heap.size,4,none⟩=some (.slice a1 x.tg.length c1):=hr1.cell 4;have l4:wr.cell? ⟨w.heap.size+1,4,none⟩=some (.slice a2 x.tg.length c2):=hr2.cell 4;have p1:=hr1.lt;have p2:=hr2.lt;clear hr1 hr2
 by_cases hkl:k<x.tg.length
 ·obtain⟨b1,o1,rfl,hlt1,hc1⟩:=HF1.o (by omega)
  obtain⟨b2,o2,rfl,hlt2,hc2⟩:=HF2.o (by omega)
  obtain⟨t,ht⟩:∃t,x.tg[k]? =some t:=⟨_,List.getElem?_eq_getElem hkl⟩
  have d1:wr.cell? ⟨b1,o1+k*2,none⟩=some (.int .i64 t.id):=(hb.cell (p:=⟨b1,o1+k*2,none⟩) hlt1).trans (hc1 k t ht 0 _ rfl);have e1:wr.cell? ⟨b1,o1+k*2+1,none⟩=some (.int .i64 t.pl):=(hb.cell (p:=⟨b1,o1+k*2+1,none⟩) hlt1).trans (hc1 k t ht 1 _ rfl);have d2:wr.cell? ⟨b2,o2+k*2,none⟩=some (.int .i64 t.id):=(hb.cell (p:=⟨b2,o2+k*2,none⟩) hlt2).trans (hc2 k t ht 0 _ rfl);have e2:wr.cell? ⟨b2,o2+k*2+1,none⟩=some (.int .i64 t.pl):=(hb.cell (p:=⟨b2,o2+k*2+1,none⟩) hlt2).trans (hc2 k t ht 1 _ rfl);have g1:b1<wr.heap.size:=Nat.lt_of_lt_of_le hlt1 hb.size;have g2:b2<wr.heap.size:=Nat.lt_of_lt_of_le hlt2 hb.size;have i1:(0:Int)<=(k:Int):=by omega
  have i2:(k:Int)<(x.tg.length:Int):=by omega
  clear hc1 hc2 ht hb
  go_upto_region 6 with fail
  refine rg72_6 (w0:=wr) (B:=wr.heap.size) (n:=wr.heap.size) (L:=[]) (by kernel_rfl) rfl (by kernel_rfl) (.t ⟨by go_grown,by go_size,(by simp[go_sem]<;>omega)⟩) (fun w21 K_w21 E_w21 F_w21=> ?_);have _ne:Nonempty (KX (wr.heap.size) wr (wr.heap.size) [] (fun _=>True)):=⟨⟨_,K_w21,E_w21⟩⟩
  repeat (go_big_quiet_step (fail))
  refine wpQuiet_nil ?_;have ra:=rck _ne d1 g1;have ra':∀s:KX (wr.heap.size) wr (wr.heap.size) [] (fun _=>True),s.val.cell? ⟨b1,o1+k*2+1,none⟩=some (.int .i64 t.pl):=fun s=>(s.kept.below.cell (p:=⟨b1,o1+k*2+1,none⟩) g1).trans e1
  have rb:=rck _ne d2 g2;have rb':∀s:KX (wr.heap.size) wr (wr.heap.size) [] (fun _=>True),s.val.cell? ⟨b2,o2+k*2+1,none⟩=some (.int .i64 t.pl):=fun s=>(s.kept.below.cell (p:=⟨b2,o2+k*2+1,none⟩) g2).trans e2
  have rk:=rck _ne k4 p1;have rl:=rck _ne l4 p2
  repeat (go_big_quiet_step (fail))
  refine wpQuiet_nil ?_
  repeat (go_big_quiet_step (fail))
  refine wpQuiet_nil ?_
  repeat (go_big_quiet_step (fail))
  refine wpQuiet_nil ?_
  repeat (go_big_quiet_step (fail))
  refine wpQuiet_nil ?_
  repeat (go_big_quiet_step (fail))
  refine wpQuiet_nil ?_
  repeat (go_big_quiet_step (fail))
  refine wpQuiet_nil ?_;clear ra ra' rb rb' rk rl;clear _ne;have KH_w21:=Hd K_w21;have hw_w21:=K_w21.below;have hz_w21:=K_w21.size;clear K_w21;clear E_w21 F_w21;go_wp2_with fail
  replace HB:=Hd (below_via HB.o hw_w21);replace HR1:=Hd (HR1.o.below hw_w21);replace HR2:=Hd (HR2.o.below hw_w21)
  go_roundw
  case rel=>exact⟨k+1,by omega,by go_num,HB.o,HR1.o,HR2.o⟩
  case measure=>simp[intOf];omega
 clear hb;go_wp2_with fail
 go_returns
 exact⟨rfl,HB.o⟩
theorem ritems(v1 v2:Value)(l:List It)(w:World)(h1:ItR w v1 l)(h2:ItR w v2 l):Calls Tryz.prog 38 #[v1,v2] w fun e w' =>e= .returned (.bool true)/\Below w.heap.size w w':=by
 obtain⟨m1,hm1,h1,ht1⟩:=h1
 obtain⟨m2,hm2,h2,ht2⟩:=h2
 obtain⟨hm,a1,c1,rfl,hf1⟩:=h1.form
 obtain⟨_,a2,c2,rfl,hf2⟩:=h2.form
 have en1:m1.length=l.length:=by rw[<-hm1,List.length_map]
 have en2:m2.length=l.length:=by rw[<-hm2,List.length_map]
 rw[en1] at hm hf1 ⊢
 rw[en2] at hf2 ⊢
 have HF1:=Hd hf1;have HF2:=Hd hf2;have HM1:=Hd hm1;have HM2:=Hd hm2;have HE1:=Hd en1;have HE2:=Hd en2;have HU1:=Hd ht1;have HU2:=Hd ht2;clear h1 h2 hf1 hf2 hm1 hm2 en1 en2 ht1 ht2;have hne:(l.length !=l.length)=false:=by simp
 have hne2:((l.length:Int) !=(l.length:Int))=false:=by simp
 go_enter Tryz.func38,Tryz.ntmps38;go_wp2_with fail
 go_loopw [5] (fun i wr=>LsL w l.length i wr) (fun i _=>l.length-(intOf i).toNat)
 case atStart=>exact⟨0,by omega,rfl,Below.refl _ _⟩
 obtain⟨k,hk,rfl,hb⟩:=hrel
 have HB:=Hd hb
 by_cases hkl:k<l.length
 ·obtain⟨b1,o1,rfl,hlt1,hc1⟩:=HF1.o (by omega)
  obtain⟨b2,o2,rfl,hlt2,hc2⟩:=HF2.o (by omega)
  obtain⟨y1,hy1⟩:∃x,m1[k]? =some x:=⟨_,List.getElem?_eq_getElem (by have:=HE1.o;omega)⟩
  obtain⟨y2,hy2⟩:∃x,m2[k]? =some x:=⟨_,List.getElem?_eq_getElem (by have:=HE2.o;omega)⟩
  have hx1:l[k]? =some y1.1:=by rw[<-HM1.o,List.getElem?_map,hy1];rfl
  have hx2:l[k]? =some y2.1:=by rw[<-HM2.o,List.getElem?_map,hy2];rfl
  have hxx:y2.1=y1.1:=by rw[hx1] at hx2;simpa using hx2.symm
  have ht1:=HU1.o y1 (List.mem_of_getElem? hy1);have ht2:=HU2.o y2 (List.mem_of_getElem? hy2)
  obtain⟨x,⟨ta,tn,tc1⟩⟩:=y1
  obtain⟨x2,⟨ua,un,uc1⟩⟩:=y2
  simp only at hxx
  subst hxx;change Rw tc 2 w (.slice ta tn tc1) x2.tg at ht1
  change Rw tc 2 w (.slice ua un uc1) x2.tg at ht2
  have ez1:=ht1.length;have ez2:=ht2.length;subst ez1 ez2
  obtain⟨x,hxe⟩:∃x,x=x2:=⟨_,rfl⟩
  subst hxe;have HT1:=Hd ht1;have HT2:=Hd ht2;have hdd:∀(j:Nat) (u:Value),(itc (x,⟨ta,x.tg.length,tc1⟩))[j]? =some u->wr.cell? ⟨b1,o1+(k*5+j),none⟩=some u:=fun j u hu=>(hb.cell (p:=⟨b1,o1+(k*5+j),none⟩) hlt1).trans (hc1 k _ hy1 j u hu)
  have hde:∀(j:Nat) (u:Value),(itc (x,⟨ua,x.tg.length,uc1⟩))[j]? =some u->wr.cell? ⟨b2,o2+(k*5+j),none⟩=some u:=fun j u hu=>(hb.cell (p:=⟨b2,o2+(k*5+j),none⟩) hlt2).trans (hc2 k _ hy2 j u hu)
  have d0:wr.cell? ⟨b1,o1+k*5,none⟩=some (.int .i64 x.pl):=hdd 0 _ rfl;have d1:=cA hdd 1 rfl;have d2:=cA hdd 2 rfl;have d3:=cA hdd 3 rfl;have d4:wr.cell? ⟨b1,o1+k*5+4,none⟩=some (.slice ta x.tg.length tc1):=by rw[Nat.add_assoc];exact hdd 4 _ rfl
  have e0:wr.cell? ⟨b2,o2+k*5,none⟩=some (.int .i64 x.pl):=hde 0 _ rfl;have e1:=cA hde 1 rfl;have e2:=cA hde 2 rfl;have e3:=cA hde 3 rfl;have e4:wr.cell? ⟨b2,o2+k*5+4,none⟩=some (.slice ua x.tg.length uc1):=by rw[Nat.add_assoc];exact hde 4 _ rfl
  have g1:b1<wr.heap.size:=Nat.lt_of_lt_of_le hlt1 hb.size;have g2:b2<wr.heap.size:=Nat.lt_of_lt_of_le hlt2 hb.size;have i1:(0:Int)<=(k:Int):=by omega
  have i2:(k:Int)<(l.length:Int):=by omega
  clear hc1 hc2 hy1 hy2 hx1 hx2 hb hdd hde ht1 ht2
  go_upto_region 6 with fail
  refine rg38_6 (w0:=wr) (B:=wr.heap.size) (n:=wr.heap.size) (L:=[]) (by kernel_rfl) rfl (by kernel_rfl) (.t ⟨by go_grown,by go_size,(by simp[go_sem]<;>omega)⟩) (fun w21 K_w21 E_w21 F_w21=> ?_);have _ne:Nonempty (KX (wr.heap.size) wr (wr.heap.size) [] (fun _=>True)):=⟨⟨_,K_w21,E_w21⟩⟩
  repeat (go_big_quiet_step (fail))
  refine wpQuiet_nil ?_;have rd0:=rck _ne d0 g1;have rd1:=rck _ne d1 g1;have rd2:=rck _ne d2 g1;have rd3:=rck _ne d3 g1;have rd4:=rck _ne d4 g1;have re0:=rck _ne e0 g2;have re1:=rck _ne e1 g2;have re2:=rck _ne e2 g2;have re3:=rck _ne e3 g2;have re4:=rck _ne e4 g2
  repeat (go_big_quiet_step (fail))
  refine wpQuiet_nil ?_;have KH_w21:=Hd K_w21;have hw_w21:=K_w21.below;have hz_w21:=K_w21.size;clear K_w21;clear E_w21 F_w21
  refine⟨fun K hK0=> ?_,trivial⟩
  have hK:=Hd hK0;clear hK0;replace HB:=Hd (below_via HB.o hw_w21);clear hw_w21 hz_w21;go_wp2_with fail
  with_reducible refine(rsameitem _ _ _ _ x w21 (HT1.o.below HB.o) (HT2.o.below HB.o)).mono ?_
  rintro e w30 ⟨rfl,hb30⟩;replace HB:=Hd (below_via HB.o hb30);clear hb30;go_wp2_with fail
  first|refine⟨rfl,hK.o _ _ ?_⟩|refine hK.o _ _ ?_
  clear hK K
  repeat (go_big_quiet_step (fail))
  refine wpQuiet_nil ?_;clear rd0 rd1 rd2 rd3 rd4 re0 re1 re2 re3 re4;clear _ne;go_wp2_with fail
  go_roundw
  case rel=>exact⟨k+1,by omega,by go_num,HB.o⟩
  case measure=>simp[intOf];omega
 clear hb;go_wp2_with fail
 go_returns
 exact⟨rfl,HB.o⟩
end Go.Proofs.YtpbepnpnpopmfaaGreat
