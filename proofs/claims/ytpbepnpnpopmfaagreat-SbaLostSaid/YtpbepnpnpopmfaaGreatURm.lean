/- slices.Delete of objects. An object is removed, by the code. -/
import Derived.Test.YtpbepnpnpopmfaaGreatTDx
import Derived.Test.YtpbepnpnpopmfaaGreatBCl
import Derived.Deep.DeepCutAuto
import Derived.LoopTactic
import Derived.Deep.MidRow
import Derived.Laws.AppendOwn
import Derived.Laws.IdiomCopy
import Derived.Lib.SliceRun
import Derived.Test.YtpbepnpnpopmfaaGreatUOu
import Derived.Test.YtpbepnpnpopmfaaGreatUVe
open Go.RowKit Go.Proofs.YtpbepnpnpopmfaaGreat
set_option maxRecDepth 100000
set_option maxHeartbeats 4000000
namespace Go.Proofs.YtpbepnpnpopmfaaGreat
open Plain
set_option linter.unusedVariables false
set_option linter.unusedSimpArgs false

theorem rg93_5{P:Program}{B n:Nat}{w0:World}{L:List (Nat×Nat×Value)}{E F:World->Prop}{id:Nat}{Q:Exit->Act->World->Prop}{a:Act}{w:World}{A:Array Oper}{o0 o1 o2 o3 o4 o5 o6 o7:Oper}(hm:P.follows .mixedOrders=true)(hA:A=[o0,o1,o2,o3,o4,o5,o6,o7].toArray)(hB:regOk A [] [0,1,2,3,4,5,7] (.fs [0,1,2,3,4,5] (.altc 6 (.fs [7] .done) .stop))=true)(c:RC B w0 n L E F w)
  (h:∀wk,Kept B w0 n L wk->E wk->F wk->wpQuiet P A (fun _=>True) (fun a0=>((∀K1:Act->World->Prop,(∀a1 w1,wpQuiet P A (fun _=>True) (fun a2=>Q .normal a2 w1) [o7] a1->K1 a1 w1)->wpList P A (fun e a1 w1=>e= .normal/\K1 a1 w1) [o6] a0 wk)/\True)) [o0,o1,o2,o3,o4,o5] a):(Code.region id A true).wp P Q a w:=by
 subst hA;exact wp_reg _ _ _ hm hB c (fun wk k e f=>have g:=h wk k e f;Scr.of_fs _ _ rfl g fun _ g=>(Scr.of_altc rfl (g.1 _ fun _ _ g=>g) (fun _ _ g=>Scr.of_fs _ _ rfl g fun _ g=>g) trivial))
theorem run_clear_one{P:Program}(w:World)(t e ty:TypeId)(z:Value)(zs:List Value)(ht:P.underlying t=some (.slice e))(hv:∀w,(zeroValue e).run P w= .ok z w)(hz:z.cells.toList=zs)(h1:∀u∈zs,u.oneCell' =true)(b o c:Nat)
  (hc:∀j,j<zs.length->(w.cell? ⟨b,o+j,none⟩).isSome=true) (hf:∀j,j<zs.length->w.frozen? ⟨b,o+j,none⟩=false):
  (Builtin.clear_ #[t] ty #[.slice (some ⟨b,o,none⟩) 1 c]).run P w= .ok (.tuple #[]) (w.setCells b o zs):=by
 have hzc:(Builtin.zeroCells z.cells 1).toList=zs:=by
  rw[<-hz];apply List.ext_getElem
  ·simp[Builtin.zeroCells]
  intro i h1 h2;have h3:i<z.cells.size:=by simpa using h2
  simp[Builtin.zeroCells,Nat.mod_eq_of_lt h3,getElem!_pos,h3]
 have hst:=run_storeCells_cells (P:=P) b o zs 0 w (by simpa using hc) (by simpa using hf) h1;simp only[Nat.add_zero] at hst
 simp[Builtin.clear_,run_underlying ht,hv,hzc,hst]
theorem wpList_append_room{P:Program}{w:World}{ops:Array Oper}{rest:List Oper}{o:Oper}{a:Act}{Q:Exit->Act->World->Prop}(hgd:o.guard=none)(s x:Operand)(t:TypeId)
  (ho:o.op= .call {callee:= .builtin .append,args:= #[s,x],argTypes:= #[t,t]}) (e:TypeId) (i:TypeInfo) (ht:P.underlying t=some (.slice e)) (hi:P.info? e=some i)
  (g n cap:Nat) (cur:Array Value) (hg:w.heap[g]? =some (.cells cur e (0,0))) (hs:a.eval s= .slice (some ⟨g,0,none⟩) n cap)
  (ad:Addr) (m c:Nat) (news:List Value) (hx:a.eval x= .slice (some ad) m c) (hl:news.length=m*i.size) (hnews:∀j u,news[j]? =some u->w.cell? (ad.add j)=some u) (h1:∀u∈news,u.oneCell' =true)
  (hroom:n+m<=cap) (hfit:n*i.size+news.length<=cur.size) (W1:World) (hW:W1=w.setRow g (cur.toList.take (n*i.size)++news++cur.toList.drop (n*i.size+news.length)).toArray)
  (h:wpList P ops Q rest (a.put o.dst (.slice (some ⟨g,0,none⟩) (n+m) cap)) W1):wpList P ops Q (o::rest) a w:=by
 refine wpList_plain hgd fun K hK=> ?_
 have hr:=run_append_room (P:=P) w t o.type e i ht hi g n cap cur hg ad m c news hl hnews h1 hroom hfit;rw[<-hW] at hr
 unfold Oper.wp execOp;simp only[ho,resolve,invoke,builtin,Sem.run_bind,Sem.run_pure,Result.andThen_ok,List.map_toArray,List.map_cons,List.map_nil,hs,hx,hr];exact hK _ _ h
theorem zeroO12(w:World):(zeroValue 47).run Tryz.prog w= .ok (.agg #[.int .i64 0,.int .i64 0,.int .i64 0,.int .i64 0,.int .i64 0,.int .i64 0,.int .i64 0,.int .i64 0,.int .i64 0,.bool false,.bool false,.bool false]) w:=by kernel_rfl
def DlO(lo hi:Nat)(w:World)(g n cap:Nat)(l:List Ob)(e:Ending)(w':World):Prop:=e= .returned (.slice (some ⟨g,0,none⟩) n cap)/\Ox oc 12 47 lo hi w' (.slice (some ⟨g,0,none⟩) n cap) l/\Onl [g] w w'
theorem delO(g cap k m lo hi:Nat)(l:List Ob)(w:World)(h:Ox oc 12 47 lo hi w (.slice (some ⟨g,0,none⟩) l.length cap) l)(hl:l.length=k+m+1)(h200:l.length<=1000):Calls Tryz.prog 93 #[.slice (some ⟨g,0,none⟩) (k+m+1) cap,.int .i64 k,.int .i64 ((k:Int)+1)] w (DlO lo hi w g (k+m) cap (l.eraseIdx k)):=by
 obtain⟨i71,hi71,hz71⟩:∃i,Tryz.prog.info? 47=some i/\(i.zero,i.size,i.bytes)=(some (Value.agg #[.int .i64 0,.int .i64 0,.int .i64 0,.int .i64 0,.int .i64 0,.int .i64 0,.int .i64 0,.int .i64 0,.int .i64 0,.bool false,.bool false,.bool false]),12,80):=by
  have h:=infoO
  cases hi:Tryz.prog.info? 47 with
  |none=>rw[hi] at h;simp at h
  |some i=>rw[hi] at h;exact⟨i,rfl,by simpa using h⟩
 simp only[Prod.mk.injEq] at hz71
 obtain⟨_,z2,_⟩:=hz71
 have hghi:g<hi:=h.2 g rfl
 obtain⟨cur,hg0,hn,hcap,hsz,ht,hlog⟩:∃cur,w.heap[g]? =some (.cells cur 47 (0,0))/\l.length<=cap/\cap<=maxLen/\cur.size=cap*12/\cur.toList.take (l.length*12)=l.flatMap oc/\lo<=g:=by
  rcases h.1.2 with⟨h1,_⟩|⟨g',cap',cur,h1,h2,h3,h4,h5,h6,h7⟩
  ·cases h1
  cases h1
  exact⟨cur,h3,h4,h5,h6,h7,h2⟩
 have HG:=Hd hg0;have HT:=Hd ht;have hdl:((l.drop (k+1)).flatMap oc).length=m*12:=by rw[flat_length (fun x _=>(oc_ok x).1),List.length_drop];omega
 have HS1:Hid (((l.drop (k+1)).flatMap oc).length=m*i71.size):=Hd (by rw[z2];exact hdl)
 have HS2:Hid (∀u∈(l.drop (k+1)).flatMap oc,u.oneCell' =true):=Hd (fun u hu=>by
  obtain⟨x,_,hx⟩:=List.mem_flatMap.1 hu
  exact(oc_ok x).2 u hx)
 have HS3:Hid (k*i71.size+((l.drop (k+1)).flatMap oc).length<=cur.size):=Hd (by rw[z2,hdl,hsz];omega)
 have HSZ:Hid ((k+m)*12+12<=(cur.toList.take (k*i71.size)++(l.drop (k+1)).flatMap oc++cur.toList.drop (k*i71.size+((l.drop (k+1)).flatMap oc).length)).toArray.size):=Hd (by
  simp only[List.size_toArray,List.length_append,List.length_take,List.length_drop,Array.length_toList,z2,hdl,hsz];omega)
 have HDEL:Hid (∀W1:World,W1.heap[g]? =Option.some (.cells (cur.toList.take (k*i71.size)++(l.drop (k+1)).flatMap oc++cur.toList.drop (k*i71.size+((l.drop (k+1)).flatMap oc).length)).toArray 47 (0,0))->W1.ownsRow lo 47 12 (.slice (some ⟨g,0,none⟩) (k+m) cap) (k+m) ((l.eraseIdx k).flatMap oc)):=Hd (fun W1 hg1=>by
  have e1:(l.eraseIdx k).flatMap oc=(l.take k).flatMap oc++(l.drop (k+1)).flatMap oc:=by rw[<-List.flatMap_append,List.eraseIdx_eq_take_drop_succ]
  have e2:(l.take k).flatMap oc=cur.toList.take (k*12):=by
   rw[<-flat_take (fun x _=>(oc_ok x).1),<-ht,List.take_take]
   congr 1
   omega
  have l1:(cur.toList.take (k*12)).length=k*12:=by rw[List.length_take,Array.length_toList,hsz];omega
  refine⟨by rw[e1,e2,List.length_append,l1,hdl];omega,.inr ⟨g,cap,_,rfl,hlog,hg1,by omega,hcap,?_,?_⟩⟩
  ·simp only[List.size_toArray,List.length_append,List.length_take,List.length_drop,Array.length_toList,z2,hdl,hsz]
   omega
  rw[z2,e1,e2];exact List.take_left' (by rw[List.length_append,l1,hdl];omega))
 have HFIN:Hid (∀W2:World,W2.ownsRow lo 47 12 (.slice (some ⟨g,0,none⟩) (k+m) cap) (k+m) ((l.eraseIdx k).flatMap oc)->Ox oc 12 47 lo hi W2 (.slice (some ⟨g,0,none⟩) (k+m) cap) (l.eraseIdx k)):=Hd (fun W2 h2=>by
  have e:(l.eraseIdx k).length=k+m:=by rw[List.length_eraseIdx];split<;>omega
  refine⟨?_,fun b hb=>by simp[Value.ownBlock] at hb;omega⟩
  unfold Ow;rw[e];exact h2)
 unfold maxLen at hcap
 have hkc:k+m+1<=cap:=by omega
 have hk2:k<=cap:=by omega
 have hm200:k+m+1<=1000:=by omega
 clear h hg0 ht hdl hsz hn h200 z2 hghi hlog
 obtain⟨A,hA,hA2⟩:∃A:Addr,(if cap=k+1 then (some (⟨g,0,none⟩:Addr)) else some ⟨g,(k+1)*12,none⟩)=some A/\(0<m->A=⟨g,(k+1)*12,none⟩):=by
  by_cases h:cap=k+1
  ·exact⟨_,by rw[if_pos h],fun h2=>by omega⟩
  exact⟨_,by rw[if_neg h],fun _=>rfl⟩
 have HNW:Hid (∀W:World,W.heap[g]? =some (.cells cur 47 (0,0))->∀j u,((l.drop (k+1)).flatMap oc)[j]? =some u->W.cell? (A.add j)=some u):=Hd (fun W hg j u hu=>by
  obtain⟨i,j',y,h2,h3,rfl⟩:=flat_of (fun x _=>(oc_ok x).1) hu
  rw[List.getElem?_drop] at h2
  have hm:=(List.getElem?_eq_some_iff.1 h2).1;have hq:=flat_at (sz:=12) (fun x _=>(oc_ok x).1) (l:=l) (i:=k+1+i) (j:=j') h2 h3;rw[hA2 (by omega),WideShapes.add_plain];rw[cell_of_row W g _ cur 47 (0,0) hg,<-Array.getElem?_toList];rw[<-HT.o,List.getElem?_take] at hq
  split at hq
  ·rw[<-hq];congr 1;rw[Nat.add_mul (k+1)];omega
  cases hq)
 clear hl hA2;go_enter Tryz.func93,Tryz.ntmps93;go_wp2_with fail
 refine rg93_5 (w0:=w) (B:=0) (n:=0) (L:=[]) (E:=fun W=>W.heap[g]? =Option.some (.cells cur 47 (0,0))) (F:=fun W=>Onl [g] w W) (by kernel_rfl) rfl (by kernel_rfl) ⟨⟨by go_grown,by go_size,(by simp[go_sem]<;>omega)⟩,HG.o,fun _ _ h hb=>(hb.block g (Array.getElem?_eq_some_iff.1 h).1).trans h,(Onl.refl _ _),fun _ _ h hb=>h.grow hb⟩ (fun w1 K_w1 E_w1 F_w1=> ?_);have _ne:Nonempty (KX (0) w (0) [] (fun W=>W.heap[g]? =Option.some (.cells cur 47 (0,0)))):=⟨⟨_,K_w1,E_w1⟩⟩
 repeat (go_big_quiet_step (fail))
 refine wpQuiet_nil ?_;have KH_w1:=Hd K_w1;have hw_w1:=K_w1.below;have hz_w1:=K_w1.size;clear K_w1;have HE:=Hd E_w1;have HE2:=Hd (F_w1);clear E_w1 F_w1
 refine⟨fun K hK0=> ?_,trivial⟩
 have hK:=Hd hK0;clear hK0;have hg:=HE.o
 obtain⟨W1,hW1⟩:∃W1,W1=w1.setRow g (cur.toList.take (k*i71.size)++(l.drop (k+1)).flatMap oc++cur.toList.drop (k*i71.size+((l.drop (k+1)).flatMap oc).length)).toArray:=⟨_,rfl⟩
 have hg1:W1.heap[g]? =Option.some (.cells (cur.toList.take (k*i71.size)++(l.drop (k+1)).flatMap oc++cur.toList.drop (k*i71.size+((l.drop (k+1)).flatMap oc).length)).toArray 47 (0,0)):=by rw[hW1];exact setRow_heap _ g cur _ 47 _ hg
 have hO1:Onl [g] w W1:=by rw[hW1];exact(Onl.setRow HE2.o (.inl (by simp)) _)
 have HOW1:Hid (W1.ownsRow lo 47 12 (.slice (some ⟨g,0,none⟩) (k+m) cap) (k+m) ((l.eraseIdx k).flatMap oc)):=Hd (HDEL.o W1 hg1)
 have hcl:∀ty,(Builtin.clear_ #[23] ty #[.slice (some ⟨g,(k+m)*12,none⟩) 1 (cap-(k+m))]).run Tryz.prog W1= .ok (.tuple #[]) (W1.setCells g ((k+m)*12) [.int .i64 0,.int .i64 0,.int .i64 0,.int .i64 0,.int .i64 0,.int .i64 0,.int .i64 0,.int .i64 0,.int .i64 0,.bool false,.bool false,.bool false]):=fun ty=>run_clear_one W1 23 47 ty _ [.int .i64 0,.int .i64 0,.int .i64 0,.int .i64 0,.int .i64 0,.int .i64 0,.int .i64 0,.int .i64 0,.int .i64 0,.bool false,.bool false,.bool false] Tryz.underlying23 zeroO12 rfl (by simp[Value.oneCell']) g _ _ (fun j hj=>by
  rw[cell_of_row W1 g _ _ 47 (0,0) hg1]
  have:=HSZ.o
  simp only[List.length_cons,List.length_nil] at hj
  rw[Array.getElem?_eq_getElem (by omega)]
  rfl) (fun j hj=>frozen_of_row W1 g _ _ 47 hg1)
 obtain⟨W2,hW2⟩:∃W2,W2=W1.setCells g ((k+m)*12) [.int .i64 0,.int .i64 0,.int .i64 0,.int .i64 0,.int .i64 0,.int .i64 0,.int .i64 0,.int .i64 0,.int .i64 0,.bool false,.bool false,.bool false]:=⟨_,rfl⟩
 rw[<-hW2] at hcl
 have HR2:Hid (W2.ownsRow lo 47 12 (.slice (some ⟨g,0,none⟩) (k+m) cap) (k+m) ((l.eraseIdx k).flatMap oc)):=Hd (by rw[hW2];exact owns_past (w:=W1) _ _ _ HOW1.o (Nat.le_refl _));have HO2:Hid (Onl [g] w W2):=Hd (by rw[hW2];exact Onl.setCells _ _ _ hO1 (.inl (by simp)));have HW1:=Hd hW1;have HGG:=Hd hg;clear hW1 hW2 hg hg1 hO1;go_wp2_with (at_builtin;refine wpList_append_room rfl (.tmp 22) (.tmp 25) 23 rfl 47 i71 Tryz.underlying23 hi71 g k cap cur HGG.o (by simp[Act.eval,Act.put]) A m (cap-(k+1)) ((l.drop (k+1)).flatMap oc) (by simp[Act.eval,Act.put]) HS1.o (fun j u hu=>HNW.o _ HGG.o j u hu) HS2.o (by omega) HS3.o W1 HW1.o ?_)
 go_wp2_with fail
 first|refine⟨rfl,hK.o _ _ ?_⟩|refine hK.o _ _ ?_
 clear hK K
 repeat (go_big_quiet_step (fail))
 refine wpQuiet_nil ?_;clear _ne;go_wp2_with fail
 go_returns
 exact⟨rfl,HFIN.o W2 HR2.o,HO2.o⟩
end Go.Proofs.YtpbepnpnpopmfaaGreat
namespace Go.Proofs.YtpbepnpnpopmfaaGreat
open Plain
set_option linter.unusedVariables false
set_option linter.unusedSimpArgs false

theorem BdO.delObj{lo hi:Nat}{w w':World}{s:Bs}{B:Bd}{g m c m':Nat}{l':List Ob}(h:BdO lo hi w s B)(hs:s.ob.v= .slice (some ⟨g,0,none⟩) m c)(hon:Onl [g] w w')(hv:Ox oc 12 47 lo hi w' (.slice (some ⟨g,0,none⟩) m' c) l'):BdO lo hi w' {s with ob:=⟨some ⟨g,0,none⟩,m',c⟩} {B with ob:=l'}:=by
 have hob:=h.ob;rw[hs] at hob
 have hg:∃cur,w.heap[g]? =some (.cells cur 47 (0,0)):=by obtain⟨_,_,c,hc⟩:=hob.1.typ g rfl;exact⟨c,hc⟩
 have hr:=grown_onl hon;have ht:∀b,(some g:Option Nat)=some b->∃cur,w.heap[b]? =some (.cells cur 47 (0,0)):=fun b hb=>by cases hb;exact hg
 have hi2:∀{v:Value} {L:List It},ItO lo hi w v L->ItO lo hi w' v L:=fun h=>by
  obtain⟨l',g1,g2,g3⟩:=h
  exact⟨l',g1,g2.other hr ht (by decide) (Nat.le_refl _),fun x hx=>(g3 x hx).map (fun h=>h.other hr ht (by decide) (Nat.le_refl _))⟩
 exact⟨hv,fun j hj=>(h.il j hj).other hr ht (by decide) (Nat.le_refl _),h.nd,hi2 h.st,hi2 h.qu,h.ns,h.bl.other hr ht (by decide) (Nat.le_refl _)⟩
theorem bremove(s:Bs)(B:Bd)(k:Nat)(x:Ob)(w:World)(h:BdR w s B)(hv:VB B)(hk:B.ob[k]? =some x)(hid:Plain.I x.id):Calls Tryz.prog 67 #[bv s B,.int .i64 x.id] w (BrA w (rmB B k x.id) (.int .i64 0)):=by
 have HR:=Hd h;have HV:=Hd hv;have HKX:=Hd hk;have HID:=Hd hid;have hkl:k<B.ob.length:=(List.getElem?_eq_some_iff.1 hk).1
 obtain⟨m,hm⟩:∃m,B.ob.length=k+m+1:=⟨B.ob.length-k-1,by omega⟩
 have HM:=Hd hm;have HOB:Hid (B.ob.length<=1000):=Hd hv.sm.ob;have hkm:k+m+1<=1000:=by have:=HOB.o;omega
 clear h hv hk hid hm hkl;go_enter Tryz.func67,Tryz.ntmps67
 go_upto_region 1 with fail
 change Code.wp Tryz.prog _ _ _ ((w.alloc (.cells (bcells s B) 34)).alloc (.cells (bcells nilS zeroB) 34))
 obtain⟨wz,hwz⟩:∃W,W=((w.alloc (.cells (bcells s B) 34)).alloc (.cells (bcells nilS zeroB) 34)):=⟨_,rfl⟩
 rw[<-hwz];have b0:Below w.heap.size w (w.alloc (.cells (bcells s B) 34)):=by exact(Below.refl _ _).alloc (Nat.le_refl _) _
 have b1:Below (w.alloc (.cells (bcells s B) 34)).heap.size (w.alloc (.cells (bcells s B) 34)) wz:=by rw[hwz];exact(Below.refl _ _).alloc (Nat.le_refl _) _
 have HB:Hid (Below w.heap.size w wz):=Hd (below_via b0 b1);have HXb:Hid (Bx wz (w.heap.size) s B):=Hd ((Ro.new w (bcells s B) 34).below b1:Ro _ _ _ _);have HXz:Hid (Bx wz (w.heap.size+1) nilS zeroB):=Hd (by rw[show w.heap.size+1=(w.alloc (.cells (bcells s B) 34)).heap.size by simp];exact(by rw[hwz];exact(Ro.new (w.alloc (.cells (bcells s B) 34)) (bcells nilS zeroB) 34)));have HC1:Hid (w.heap.size+2<=wz.heap.size):=Hd (by rw[hwz];simp);clear hwz b0 b1;go_wp2_with (first|(refine wpList_load_bx _ rfl rfl HXb.o (by kernel_rfl) ?_))
 with_reducible refine(bindex s B x.id _ (HR.o.below HB.o) HV.o.i HV.o.sm HID.o).mono ?_
 rintro e w1 ⟨hA,hb⟩;have HC2:Hid (wz.heap.size<=w1.heap.size):=Hd (hb.size);replace HB:=Hd (below_via HB.o hb);replace HXb:=Hd (HXb.o.below hb);replace HXz:=Hd (HXz.o.below hb);clear hb
 obtain rfl:e= .returned (.tuple #[.int .i64 k,.int .i64 0]):=by
  rcases hA with⟨_,k',x',h1,h2,h3⟩|⟨_,h1,_⟩|⟨h1,_⟩
  ·rw[ix_at HV.o HKX.o h1 h2] at h3;exact h3
  ·exact absurd rfl (h1 x (List.mem_of_getElem? HKX.o))
  exact absurd HV.o h1
 clear hA;go_wp2_with (first|(refine wpList_load_bx _ rfl rfl HXb.o (by kernel_rfl) ?_))
 with_reducible refine(bout s B x.id _ (HR.o.below HB.o) HV.o).mono ?_
 rintro e w2 ⟨sc,rfl,ho,hb⟩;have HC3:Hid (w1.heap.size<=w2.heap.size):=Hd (hb.size);replace HB:=Hd (below_via HB.o hb);replace HXb:=Hd (HXb.o.below hb);replace HXz:=Hd (HXz.o.below hb);have HOc:=Hd ho;clear ho hb;go_wp2_with (first|(refine wpList_store_bh (s:=sc) (B:=(outB B x.id)) rfl _ _ rfl rfl rfl HXb.o rfl ?_))
 intro w3 hw0;have hon:Onl [w.heap.size] w2 w3:=by rw[hw0.out];exact Onl.setRow (Onl.refl _ _) (.inl (by simp)) _
 have hx:Bx w3 (w.heap.size) sc ((outB B x.id)):=by rw[hw0.out];exact Bx.row HXb.o _ _
 clear hw0;have hlo:w.heap.size<=w.heap.size:=by(have o0:=HC1.o;have o1:=HC2.o;have o2:=HC3.o;have x0:=HXb.o.lt;have x1:=HXz.o.lt;omega)
 have hls:w.heap.size<=w2.heap.size:=HB.o.size;replace HB:=Hd (belowOnl HB.o hon (by simp only[List.mem_singleton,forall_eq];exact hlo) hls);replace HXz:=Hd (HXz.o.onl hon (by simp only[List.mem_singleton];(have o0:=HC1.o;have o1:=HC2.o;have o2:=HC3.o;have x0:=HXb.o.lt;have x1:=HXz.o.lt;omega)));replace HOc:=Hd (HOc.o.onlB hon HXb.o);have HC4:Hid (w2.heap.size<=w3.heap.size):=Hd (hon.size);clear hlo hls;replace HXb:=Hd hx;clear hx hon
 obtain⟨g,gc,hov,hg1,hg2,hg3⟩:=Ox.pos HOc.o.ob (by show 0<B.ob.length;have:=HM.o;omega)
 have hox:=HOc.o.ob;rw[hov] at hox
 have hln:(outB B x.id).ob.length=k+m+1:=HM.o;have HOV:Hid (sc.ob.v= .slice (some ⟨g,0,none⟩) (k+m+1) gc):=Hd (hln▸hov);have HOX:Hid (Ox oc 12 47 w1.heap.size w2.heap.size w3 (.slice (some ⟨g,0,none⟩) B.ob.length gc) B.ob):=Hd hox;have HGG:Hid (w1.heap.size<=g/\g<w2.heap.size):=Hd ⟨hg1,hg2⟩
 have c0:w3.cell? ⟨w.heap.size,0,none⟩=some (.slice (some ⟨g,0,none⟩) (k+m+1) gc):=by
  rw[HXb.o.cell 0];exact congrArg some HOV.o
 have hw1:wrap64 ((k:Int)+1)=(k:Int)+1:=by unfold wrap64;omega
 clear hov hox hg1 hg2 hg3 hln;go_wp2_with fail
 with_reducible refine(delO g gc k m (w1.heap.size) (w2.heap.size) B.ob w3 HOX.o HM.o HOB.o).mono ?_
 rintro e v2 ⟨rfl,hox,hon⟩;clear hw1 c0 HOX;have hgb:w1.heap.size<=g/\g<w2.heap.size:=HGG.o;have hbo:=HOc.o.delObj HOV.o hon hox;replace HOc:Hid (BdO (w1.heap.size) (w2.heap.size) v2 ({sc with ob:=⟨some ⟨g,0,none⟩,k+m,gc⟩}) (rmB B k x.id)):=Hd hbo;replace HB:=Hd (belowOnl HB.o hon (by simp only[List.mem_singleton,forall_eq];(have o0:=HC1.o;have o1:=HC2.o;have o2:=HC3.o;have o3:=HC4.o;have x0:=HXb.o.lt;have x1:=HXz.o.lt;omega)) HB.o.size);replace HXb:=Hd (HXb.o.onl hon (by simp only[List.mem_singleton];(have o0:=HC1.o;have o1:=HC2.o;have o2:=HC3.o;have o3:=HC4.o;have x0:=HXb.o.lt;have x1:=HXz.o.lt;omega)));replace HXz:=Hd (HXz.o.onl hon (by simp only[List.mem_singleton];(have o0:=HC1.o;have o1:=HC2.o;have o2:=HC3.o;have o3:=HC4.o;have x0:=HXb.o.lt;have x1:=HXz.o.lt;omega)));have HC9:Hid (w3.heap.size<=v2.heap.size):=Hd hon.size;clear hon hbo hgb hox HGG;have c0:v2.cell? ⟨w.heap.size,0,none⟩=some (sc.ob.v):=HXb.o.cell 0;have f0:v2.frozen? ⟨w.heap.size,0,none⟩=false:=HXb.o.free 0
 go_upto_region 6 with fail
 obtain⟨w4,hw⟩:∃X,X=v2.setCell ⟨w.heap.size,0,none⟩ (.slice (some ⟨g,0,none⟩) (k+m) gc):=⟨_,rfl⟩
 rw[<-hw];have hon:Onl [w.heap.size] v2 w4:=by rw[hw];exact Onl.setCell (Onl.refl _ _) (.inl (by simp)) _
 have hx:Bx w4 (w.heap.size) ({sc with ob:=⟨some ⟨g,0,none⟩,k+m,gc⟩}) ((rmB B k x.id)):=by rw[hw];exact HXb.o.put 0 _ rfl
 clear hw c0 f0;have hlo:w.heap.size<=w.heap.size:=by(have o0:=HC1.o;have o1:=HC2.o;have o2:=HC3.o;have o3:=HC4.o;have o4:=HC9.o;have x0:=HXb.o.lt;have x1:=HXz.o.lt;omega)
 have hls:w.heap.size<=v2.heap.size:=HB.o.size;replace HB:=Hd (belowOnl HB.o hon (by simp only[List.mem_singleton,forall_eq];exact hlo) hls);replace HXz:=Hd (HXz.o.onl hon (by simp only[List.mem_singleton];(have o0:=HC1.o;have o1:=HC2.o;have o2:=HC3.o;have o3:=HC4.o;have o4:=HC9.o;have x0:=HXb.o.lt;have x1:=HXz.o.lt;omega)));replace HOc:=Hd (HOc.o.onlB hon HXb.o);have HC5:Hid (v2.heap.size<=w4.heap.size):=Hd (hon.size);clear hlo hls;replace HXb:=Hd hx;clear hx hon;go_wp2_with (first|(refine wpList_load_bx _ rfl rfl HXb.o (by kernel_rfl) ?_)|(refine wpList_store_bh (s:=({sc with ob:=⟨some ⟨g,0,none⟩,k+m,gc⟩})) (B:=(rmB B k x.id)) rfl _ _ rfl rfl rfl HXz.o rfl ?_;intro w5 hw9))
 have hg9:Bx w5 (w.heap.size+1) ({sc with ob:=⟨some ⟨g,0,none⟩,k+m,gc⟩}) ((rmB B k x.id)):=by rw[hw9.out];exact Bx.row HXz.o _ _
 have ho9:Onl [w.heap.size+1] w4 w5:=by rw[hw9.out];exact Onl.setRow (Onl.refl _ _) (.inl (by simp)) _
 have hlo:w.heap.size<=w.heap.size+1:=by(have o0:=HC1.o;have o1:=HC2.o;have o2:=HC3.o;have o3:=HC4.o;have o4:=HC9.o;have o5:=HC5.o;have x0:=HXb.o.lt;have x1:=HXz.o.lt;omega)
 have hb9:Below w.heap.size w w5:=belowOnl HB.o ho9 (by simp only[List.mem_singleton,forall_eq];exact hlo) HB.o.size;have HG9:=Hd hg9;have HPOST:Hid (BrA w ((rmB B k x.id)) (.int .i64 0) (.returned (.tuple #[bv ({sc with ob:=⟨some ⟨g,0,none⟩,k+m,gc⟩}) ((rmB B k x.id)),.int .i64 0])) w5):=Hd ⟨_,rfl,(HOc.o.onlB ho9 HXz.o).mono (by(have o0:=HC1.o;have o1:=HC2.o;have o2:=HC3.o;have o3:=HC4.o;have o4:=HC9.o;have o5:=HC5.o;have x0:=HXb.o.lt;have x1:=HXz.o.lt;omega)) (by have h9:=ho9.size;(have o0:=HC1.o;have o1:=HC2.o;have o2:=HC3.o;have o3:=HC4.o;have o4:=HC9.o;have o5:=HC5.o;have x0:=HXb.o.lt;have x1:=HXz.o.lt;omega)),hb9⟩;clear hw9 hg9 ho9 hb9 hlo;go_wp2_with fail
 exact bodyPost_ret (v:= .tuple #[bv ({sc with ob:=⟨some ⟨g,0,none⟩,k+m,gc⟩}) ((rmB B k x.id)),.int .i64 0]) (results_b1 Tryz.results67 _ _ HG9.o rfl rfl) rfl HPOST.o
end Go.Proofs.YtpbepnpnpopmfaaGreat
