/- Boards whose queue or stack grows. Whole boards and objects in regions that draw their order. Lists without a number; zones that are set anew. What a queue may hold. -/
import Derived.Test.YtpbepnpnpopmfaaGreatTDx
import Derived.Test.YtpbepnpnpopmfaaGreatTOf
import Derived.Deep.DeepCutAuto
import Derived.LoopTactic
import Derived.Deep.MidRow
open Go.RowKit Go.Proofs.YtpbepnpnpopmfaaGreat
set_option maxRecDepth 100000
set_option maxHeartbeats 4000000
namespace Go.Proofs.YtpbepnpnpopmfaaGreat
open Plain
set_option linter.unusedVariables false
set_option linter.unusedSimpArgs false

theorem Ox.other{α:Type}{f:α->List Value}{sz:Nat}{e t:TypeId}{lo hi hi':Nat}{w w':World}{v:Value}{l:List α}{r:Option Nat}(h:Ox f sz e lo hi w v l)(hg:w.grownBy w' r)(hr:∀b,r=some b->∃cur,w.heap[b]? =some (.cells cur t (0,0)))(hne:e≠t)(hh:hi<=hi'):Ox f sz e lo hi' w' v l:=
 (h.keep (fun k _ _ hb=>hg.block k (h.blk hb).2.2 (fun e1=>by
  obtain⟨c1,h1⟩:=hr k e1.symm
  obtain⟨_,_,c2,h2⟩:=h.1.typ k hb
  rw[h1] at h2
  simp at h2
  exact hne h2.2.symm))).mono (Nat.le_refl _) hh
theorem ItO.grew{lo hi:Nat}{w w':World}{v v':Value}{L:List It}{l' m:List (It×Sl)}(hl:l'.map Prod.fst=L)(hox:Ox itc 5 73 lo hi w v l')(hot:∀x∈l',TgO lo hi w x.2.v x.1.tg)(ho:Ow itc 5 73 w' lo v' (l'++m))(hg:w.grownBy w' v.ownBlock)(hm:∀x∈m,(x.2=nilSl\/∃a c,x.2.v= .slice (some a) 0 c)/\x.1.tg=[])(hs:hi<=w'.heap.size):ItO lo w'.heap.size w' v' (L++m.map Prod.fst):=by
 refine⟨l'++m,by rw[List.map_append,hl],Ox.of ho,fun x hx=> ?_⟩
 rcases List.mem_append.1 hx with h|h
 ·exact(hot x h).map (fun h=>h.other hg (fun b hb=>by obtain⟨_,_,c,hc⟩:=hox.1.typ b hb;exact⟨c,hc⟩) (by decide) hs)
 rw[(hm x h).2]
 rcases(hm x h).1 with h1|h1
 ·rw[h1];exact .inl (Ox.nil _ _ _ _)
 exact .inr ⟨rfl,h1⟩
theorem ItO.rest{lo hi hi':Nat}{w w':World}{v:Value}{L:List It}{r:Option Nat}(h:ItO lo hi w v L)(hg:w.grownBy w' r)(hn:∀b,v.ownBlock=some b->r≠some b)(hr:∀b,r=some b->∃cur,w.heap[b]? =some (.cells cur 73 (0,0)))(hh:hi<=hi'):ItO lo hi' w' v L:=by
 obtain⟨l',h1,h2,h3⟩:=h
 exact⟨l',h1,(h2.keep (fun k _ _ hb=>hg.block k (h2.blk hb).2.2 (fun e=>hn k hb e.symm))).mono (Nat.le_refl _) hh,fun x hx=>(h3 x hx).map (fun h=>h.other hg hr (by decide) hh)⟩
theorem ItO.typ{lo hi:Nat}{w:World}{v:Value}{L:List It}(h:ItO lo hi w v L):∀b,v.ownBlock=some b->∃cur,w.heap[b]? =some (.cells cur 73 (0,0)):=fun b hb=>by
 obtain⟨l',_,h2,_⟩:=h
 obtain⟨_,_,c,hc⟩:=h2.1.typ b hb
 exact⟨c,hc⟩
theorem BdO.newQu{lo hi:Nat}{w w':World}{s:Bs}{B:Bd}(h:BdO lo hi w s B)(hs:hi<=w.heap.size)(v:Sl)(L:List It)(hg:w.grownBy w' s.qu.v.ownBlock)(hq:ItO lo w'.heap.size w' v.v L)(hv:v.v.ownBlock=s.qu.v.ownBlock\/∃k,v.v.ownBlock=some k/\w.heap.size<=k):BdO lo w'.heap.size w' {s with qu:=v} {B with qu:=L}:=by
 have hh:hi<=w'.heap.size:=Nat.le_trans hs hg.size;have ht:=h.qu.typ
 refine⟨h.ob.other hg ht (by decide) hh,fun j hj=>(h.il j hj).other hg ht (by decide) hh,h.nd,h.st.rest hg (fun b hb e=>h.ns b hb e) ht hh,hq,fun b hb e=> ?_,h.bl.other hg ht (by decide) hh⟩
 rcases hv with h1|⟨q,h1,h4⟩
 ·exact h.ns b hb (h1▸e)
 obtain⟨l',_,h2,_⟩:=h.st
 have h3:=(h2.blk hb).2.1;rw[h1] at e
 have:=Option.some.inj e
 omega
theorem BdO.newSt{lo hi:Nat}{w w':World}{s:Bs}{B:Bd}(h:BdO lo hi w s B)(hs:hi<=w.heap.size)(v:Sl)(L:List It)(hg:w.grownBy w' s.st.v.ownBlock)(hq:ItO lo w'.heap.size w' v.v L)(hv:v.v.ownBlock=s.st.v.ownBlock\/∃k,v.v.ownBlock=some k/\w.heap.size<=k):BdO lo w'.heap.size w' {s with st:=v} {B with st:=L}:=by
 have hh:hi<=w'.heap.size:=Nat.le_trans hs hg.size;have ht:=h.st.typ
 refine⟨h.ob.other hg ht (by decide) hh,fun j hj=>(h.il j hj).other hg ht (by decide) hh,h.nd,hq,h.qu.rest hg (fun b hb e=>h.ns b e hb) ht hh,fun b hb e=> ?_,h.bl.other hg ht (by decide) hh⟩
 rcases hv with h1|⟨q,h1,h4⟩
 ·exact h.ns b (h1▸hb) e
 obtain⟨l',_,h2,_⟩:=h.qu
 have h3:=(h2.blk e).2.1;rw[h1] at hb
 have:=Option.some.inj hb
 omega
theorem BdO.onlT{lo hi:Nat}{w w':World}{s:Bs}{B:Bd}{g:Nat}{t:TypeId}{cur:Array Value}(h:BdO lo hi w s B)(ho:Onl [g] w w')(hg:w.heap[g]? =some (.cells cur t (0,0)))(h1:47≠t)(h2:3≠t)(h3:73≠t)(h4:98≠t)(h5:89≠t):BdO lo hi w' s B:=by
 have hr:=grown_onl ho;have ht:∀b,(some g:Option Nat)=some b->∃cur,w.heap[b]? =some (.cells cur t (0,0)):=fun b hb=>by cases hb;exact⟨_,hg⟩
 have hi2:∀{v:Value} {L:List It},ItO lo hi w v L->ItO lo hi w' v L:=fun h=>by
  obtain⟨l',g1,g2,g3⟩:=h
  exact⟨l',g1,g2.other hr ht h3 (Nat.le_refl _),fun x hx=>(g3 x hx).map (fun h=>h.other hr ht h4 (Nat.le_refl _))⟩
 exact⟨h.ob.other hr ht h1 (Nat.le_refl _),fun j hj=>(h.il j hj).other hr ht h2 (Nat.le_refl _),h.nd,hi2 h.st,hi2 h.qu,h.ns,h.bl.other hr ht h5 (Nat.le_refl _)⟩
theorem BdO.onlB{lo hi:Nat}{w w':World}{s s':Bs}{B B':Bd}{g:Nat}(h:BdO lo hi w s B)(ho:Onl [g] w w')(hg:Bx w g s' B'):BdO lo hi w' s B:=h.onlT ho hg (by decide) (by decide) (by decide) (by decide) (by decide)
theorem BdO.noQu{lo hi:Nat}{w:World}{s:Bs}{B:Bd}(h:BdO lo hi w s B):BdO lo hi w {s with qu:=nilSl} {B with qu:=[]}:=⟨h.ob,h.il,h.nd,h.st,ItO.nil _ _ _,fun b hb e=>by simp[nilSl,Sl.v,Value.ownBlock] at e,h.bl⟩
theorem nilI_rd(w:World)(v:Value)(l:List It)(hl:∀x∈l,x.tg=[])(h:Rw itc 5 w v (l.map nilI)):ItR w v l:=⟨l.map nilI,by rw[List.map_map];exact List.map_id l,h,fun x hx=>by
 obtain⟨y,hy,rfl⟩:=List.mem_map.1 hx
 show Rw tc 2 w nilSl.v y.tg
 rw[hl y hy];exact Rw.nil _⟩
namespace Plain
theorem seat_len{B:Bd}(h:VB B)(p:Nat):(B.seat p).all.length<=500:=by
 have h1:=h.plc.len;have h2:=h.num;unfold vNum at h2
 have h3:=h2.2.2.2.2.2.1;unfold Bd.prs pr at h1
 simp only[List.length_append,List.length_map] at h1
 unfold Bd.seat
 split<;>omega
theorem zs_mem(S:Se)(z:Nat):∀i∈S.zs z,i∈S.all:=fun i hi=>by
 unfold Se.zs at hi
 unfold Se.all
 split at hi
 ·simp[hi]
 split at hi
 ·simp[hi]
 split at hi
 ·simp[hi]
 simp[hi]
theorem zs_len(S:Se)(z:Nat):(S.zs z).length<=S.all.length:=by
 unfold Se.zs Se.all;simp only[List.length_append]
 split
 ·omega
 split
 ·omega
 split
 ·omega
 omega
theorem VB.prs_bd{B:Bd}(h:VB B):∀x∈B.prs,1<=x.1/\x.1<=500:=fun x hx=>by
 obtain⟨o,ho,rfl⟩:=List.mem_map.1 (h.plc.perm.mem_iff.1 hx)
 obtain⟨i,hi⟩:=List.getElem?_of_mem ho
 exact vO_id (h.plc.ob i o hi).1
theorem VB.zs_bd{B:Bd}(h:VB B)(p z:Nat):∀i∈(B.seat p).zs z,1<=i/\i<=500:=fun i hi=>h.prs_bd _ (seat_prs p i (zs_mem _ z i hi))
theorem VB.itI{B:Bd}(h:VB B):∀x∈B.st,Plain.I x.id/\Plain.I x.pl/\Plain.I x.cd:=fun x hx=>by
 have h1:=List.all_eq_true.1 h.its.1 x hx;unfold itB itN at h1
 have h2:=of_decide_eq_true (Bool.and_eq_true_iff.1 h1).1;unfold Plain.I;omega
theorem VB.i{B:Bd}(h:VB B):B.I:=by
 have hz:∀(p z:Nat),∀i∈(B.seat p).zs z,Plain.I i:=fun p z i hi=>by have:=h.zs_bd p z i hi;unfold Plain.I;omega
 have ha:∀a∈B.att,Plain.I a:=fun a ha=>hz B.ac.toNat 2 a (h.fgt.own a ha)
 refine⟨hz,fun o ho=> ?_,h.itI,ha,fun x hx=>⟨ha _ (h.fgt.bl x hx).1,hz (1-B.ac).toNat 2 _ (h.fgt.bl x hx).2⟩⟩
 obtain⟨i,hi⟩:=List.getElem?_of_mem ho
 have h1:=(h.plc.ob i o hi).1;unfold vO at h1
 have h2:=of_decide_eq_true h1
 constructor<;>(unfold Plain.I;omega)
theorem sub_len{l m:List Int}(hn:l.Nodup)(hs:∀a∈l,a∈m):l.length<=m.length:=by
 induction l generalizing m with
 |nil=>simp
 |cons a l ih=>
  have h1:=List.nodup_cons.1 hn;have h2:=ih h1.2 (m:=m.erase a) (fun b hb=>(List.mem_erase_of_ne (by rintro rfl;exact h1.1 hb)).2 (hs b (List.mem_cons_of_mem _ hb)));have h3:=hs a List.mem_cons_self;rw[List.length_erase_of_mem h3] at h2
  have h4:=List.length_pos_of_mem h3
  simp
  omega
theorem VB.sm{B:Bd}(h:VB B):B.Sm:=by
 have hn:=h.num;unfold vNum at hn
 have ha:B.att.length<=500:=Nat.le_trans (sub_len h.fgt.nd (fun a ha=>zs_mem (B.seat B.ac.toNat) 2 a (h.fgt.own a ha))) (seat_len h _)
 have hb:B.bl.length<=500:=by
  have:=sub_len h.fgt.na (m:=B.att) (fun a ha=>by
   obtain⟨x,hx,rfl⟩:=List.mem_map.1 ha
   exact(h.fgt.bl x hx).1)
  rw[List.length_map] at this
  omega
 exact⟨fun p z=>by have:=zs_len (B.seat p) z;have:=seat_len h p;omega,by omega,by omega,by omega,by omega,by omega⟩
theorem it_tl{B:Bd}(h:VB B):(∀x∈B.st,x.tg.length<=4)/\∀x∈B.qu,x.tg.length<=4:=by
 constructor
 ·intro x hx
  have h1:=List.all_eq_true.1 h.its.1 x hx;unfold itB itN at h1
  exact(of_decide_eq_true (Bool.and_eq_true_iff.1 h1).1).2.2.2.2.1
 intro x hx;have h1:=List.all_eq_true.1 h.its.2 x hx;unfold itB itN at h1
 exact(of_decide_eq_true (Bool.and_eq_true_iff.1 h1).1).2.2.2.2.1
theorem VB.tl{B:Bd}(h:VB B):B.Tl:=⟨fun x hx=>by have:=(it_tl h).1 x hx;omega,fun x hx=>by have:=(it_tl h).2 x hx;omega⟩
end Plain
end Go.Proofs.YtpbepnpnpopmfaaGreat
namespace Go.Proofs.YtpbepnpnpopmfaaGreat
open Plain
set_option linter.unusedVariables false
set_option linter.unusedSimpArgs false

theorem quiet_load_bx{C:World->Prop}{K:Act->Prop}{a a':Act}{op:Oper}{P:Nat}{s:Bs}{B:Bd}(x:Operand)(ho:op.op= .load 34 x)(hx:a.eval x= .pointer (some ⟨P,0,none⟩))(h:∀w,C w->Bx w P s B)(ha:a.put op.dst (bv s B)=a')(hk:K a'):op.quiet Tryz.prog a C K:=by
 subst ha
 refine⟨bv s B,fun w hw=> ?_,hk⟩
 have e:=(h w hw).load
 have r:(execOp a.eval op).run Tryz.prog w= .ok (.value (bv s B)) w:=by
  unfold execOp;rw[ho]
  show(Bind.bind (Instr.loadAt 34 (a.eval x)) (fun v=>pure (Next.value v)):Sem Next).run Tryz.prog w=_
  rw[hx,Sem.run_bind,e]
  rfl
 unfold Oper.quietAt;rw[r]
 exact⟨rfl,rfl⟩
theorem quiet_load_o{C:World->Prop}{K:Act->Prop}{a a':Act}{op:Oper}{P:Nat}(z:Ob)(x:Operand)(ho:op.op= .load 47 x)(hx:a.eval x= .pointer (some ⟨P,0,none⟩))(h:∀w,C w->w.heap[P]? =some (.cells (oc z).toArray 47 (0,0)))(ha:a.put op.dst (.agg (oc z).toArray)=a')(hk:K a'):op.quiet Tryz.prog a C K:=by
 subst ha
 refine⟨.agg (oc z).toArray,fun w hw=> ?_,hk⟩
 have e:(Instr.loadAt 47 (.pointer (some ⟨P,0,none⟩))).run Tryz.prog w= .ok (.agg (oc z).toArray) w:=by
  simp only[Instr.loadAt,Instr.sureAddr,Sem.run_bind,Sem.run_pure,Result.andThen_ok];exact run_loadVar_row w P 47 47 _ (0,0) _ (h w hw) Tryz.underlying47 rfl (by kernel_rfl)
 have r:(execOp a.eval op).run Tryz.prog w= .ok (.value (.agg (oc z).toArray)) w:=by
  unfold execOp;rw[ho]
  show(Bind.bind (Instr.loadAt 47 (a.eval x)) (fun v=>pure (Next.value v)):Sem Next).run Tryz.prog w=_
  rw[hx,Sem.run_bind,e]
  rfl
 unfold Oper.quietAt;rw[r]
 exact⟨rfl,rfl⟩
end Go.Proofs.YtpbepnpnpopmfaaGreat
namespace Go.Proofs.YtpbepnpnpopmfaaGreat
open Plain
set_option linter.unusedVariables false
set_option linter.unusedSimpArgs false

def Plain.wo(n:Int)(l:List Int):List Int:=l.filter (fun x=> !(x==n))
def WoL(W:World)(n:Int)(l:List Int)(lv i:Value)(wr:World):Prop:=∃(k:Nat) (a:Option Addr) (c:Nat),k<=l.length/\i= .int .i64 k/\lv= .slice a (wo n (l.take k)).length c/\Below W.heap.size W wr/\Ow ic 1 3 wr W.heap.size (.slice a (wo n (l.take k)).length c) (wo n (l.take k))
theorem wo_next{n:Int}{l:List Int}{k:Nat}{x:Int}(hx:l[k]? =some x):wo n (l.take (k+1))=wo n (l.take k)++if x=n then [] else [x]:=by
 unfold wo;rw[List.take_add_one,hx,List.filter_append]
 congr 1
 by_cases h:x=n<;>simp[h]
theorem rwithout(v:Value)(l:List Int)(n:Int)(w:World)(hs:Rw ic 1 w v l)(hl:l.length<=1000):Calls Tryz.prog 78 #[v,.int .i64 n] w (ClA ic 1 3 w (wo n l)):=by
 obtain⟨hm,a0,c0,rfl,hf⟩:=hs.form
 have HF:=Hd hf;have HL:=Hd hl;clear hs hf;go_enter Tryz.func78,Tryz.ntmps78;go_wp2_with fail
 go_loopw [5,6] (fun lv i wr=>WoL w n l lv i wr) (fun _ i _=>l.length-(intOf i).toNat)
 case atStart=>exact⟨0,none,0,by omega,rfl,rfl,Below.refl _ _,Ow.nil _ _ _⟩
 obtain⟨k,la,lc,hk,rfl,rfl,hb,ho⟩:=hrel
 have HB:=Hd hb;have HOW:=Hd ho;have hml:(wo n (l.take k)).length<=k:=Nat.le_trans (List.length_filter_le _ _) (by simp;omega)
 obtain⟨m,hm2⟩:∃m,(wo n (l.take k)).length=m:=⟨_,rfl⟩
 rw[hm2] at HOW hml ⊢
 have HM2:=Hd hm2;clear ho hm2
 by_cases hkl:k<l.length
 case neg=>
  obtain rfl:k=l.length:=by omega
  have t1:decide ((l.length:Int)<(l.length:Int))=false:=decide_eq_false (by omega);have t1':decide (l.length<l.length)=false:=decide_eq_false (by omega);rw[List.take_length] at HOW HM2
  clear hb;go_wp2_with fail
  go_returns
  exact⟨la,lc,by rw[HM2.o];rfl,by rw[HM2.o];exact Ox.of HOW.o,HB.o⟩
 case pos=>
 have t1:decide ((k:Int)<(l.length:Int))=true:=decide_eq_true (by omega);have t1':decide (k<l.length)=true:=decide_eq_true hkl
 obtain⟨x,hx⟩:∃x,l[k]? =some x:=⟨_,List.getElem?_eq_getElem hkl⟩
 obtain⟨b,off,rfl,hlb,hc⟩:=HF.o (by omega)
 have d0:wr.cell? ⟨b,off+k,none⟩=some (.int .i64 x):=(hb.cell (p:=⟨b,off+k,none⟩) hlb).trans (by have:=hc k x hx 0 _ rfl;simpa using this);have i1:(0:Int)<=(k:Int):=by omega
 have i2:(k:Int)<(l.length:Int):=by omega
 have HX:=Hd hx;clear hc hx hb hlb
 by_cases he:x=n
 ·have t2:(x !=n)=false:=by simp[he]
  have hno:wo n (l.take (k+1))=wo n (l.take k):=by rw[wo_next HX.o,if_pos he,List.append_nil]
  have HNO:=Hd hno;clear hno he;go_wp2_with fail
  go_roundw
  case rel=>exact⟨k+1,la,lc,by omega,by go_num,by rw[HNO.o,HM2.o],HB.o,by rw[HNO.o,HM2.o];exact HOW.o⟩
  case measure=>simp[intOf];omega
 have t2:(x !=n)=true:=by simp[he]
 have hyes:wo n (l.take (k+1))=wo n (l.take k)++[x]:=by rw[wo_next HX.o,if_neg he]
 have HYES:=Hd hyes;clear hyes he;go_wp2_with (at_builtin;refine wpList_append_ow (f:=ic) (sz:=1) rfl _ _ 26 rfl w.heap.size 3 _ 8 Tryz.underlying26 infoI rfl (by decide) _ (wo n (l.take k)) rfl (HOW.o.below ((Below.refl _ _).alloc (Nat.le_refl _) _)) ic_ok _ [x] rfl (Rw.one2 _ _ x _ rfl _ _ rfl) ?c2 ?c3 ?c4 ?_)
 case c2=>have h1:=HM2.o;have h2:=HL.o;rw[h1];simp[maxLen];omega
 case c3=>have h1:=HM2.o;have h2:=HL.o;rw[h1];simp;omega
 case c4=>have:=HB.o.size;simp;omega
 intro v8 w8 ho8 hg8 hv8
 obtain⟨va,vc,rfl⟩:=ho8.form
 have hb8:Below w.heap.size w w8:=(HB.o.alloc HB.o.size _).grown hg8 (by have:=HB.o.size;simp;omega) (fun q hq=>(HOW.o.typ q hq).1);rw[<-HYES.o] at ho8 ⊢
 have HO8:=Hd ho8;have HB8:=Hd hb8;clear ho8 hg8 hv8 hb8;go_wp2_with fail
 go_roundw
 case rel=>exact⟨k+1,va,vc,by omega,by go_num,rfl,HB8.o,HO8.o⟩
 case measure=>simp[intOf];omega
def Plain.Se.setL(S:Se)(z:Nat)(l:List Int):Se:=if z=0 then {S with lib:=l} else if z=1 then {S with hand:=l} else if z=2 then {S with fld:=l} else {S with grv:=l}
def Plain.Bd.setL(B:Bd)(p z:Nat)(l:List Int):Bd:=if p=0 then {B with s0:=B.s0.setL z l} else {B with s1:=B.s1.setL z l}
theorem setL_il(B:Bd)(l:List Int){p z:Nat}(hp:p<2)(hz:z<4){j:Nat}(hj:j<9):(B.setL p z l).il j=if j=4*p+z then l else B.il j:=by
 have:(p=0/\z=0)\/(p=0/\z=1)\/(p=0/\z=2)\/(p=0/\z=3)\/(p=1/\z=0)\/(p=1/\z=1)\/(p=1/\z=2)\/(p=1/\z=3):=by omega
 have hjj:j=0\/j=1\/j=2\/j=3\/j=4\/j=5\/j=6\/j=7\/j=8:=by omega
 rcases this with⟨rfl,rfl⟩|⟨rfl,rfl⟩|⟨rfl,rfl⟩|⟨rfl,rfl⟩|⟨rfl,rfl⟩|⟨rfl,rfl⟩|⟨rfl,rfl⟩|⟨rfl,rfl⟩<;>rcases hjj with rfl|rfl|rfl|rfl|rfl|rfl|rfl|rfl|rfl<;>rfl
theorem setL_rest(B:Bd)(l:List Int){p z:Nat}(hp:p<2)(hz:z<4):(B.setL p z l).ob=B.ob/\(B.setL p z l).st=B.st/\(B.setL p z l).qu=B.qu/\(B.setL p z l).bl=B.bl:=by
 have:(p=0/\z=0)\/(p=0/\z=1)\/(p=0/\z=2)\/(p=0/\z=3)\/(p=1/\z=0)\/(p=1/\z=1)\/(p=1/\z=2)\/(p=1/\z=3):=by omega
 rcases this with⟨rfl,rfl⟩|⟨rfl,rfl⟩|⟨rfl,rfl⟩|⟨rfl,rfl⟩|⟨rfl,rfl⟩|⟨rfl,rfl⟩|⟨rfl,rfl⟩|⟨rfl,rfl⟩<;>exact⟨rfl,rfl,rfl,rfl⟩
theorem setL_cells(s:Bs)(B:Bd)(l:List Int){p z:Nat}(hp:p<2)(hz:z<4):bcells s (B.setL p z l)=bcells s B:=by
 have:(p=0/\z=0)\/(p=0/\z=1)\/(p=0/\z=2)\/(p=0/\z=3)\/(p=1/\z=0)\/(p=1/\z=1)\/(p=1/\z=2)\/(p=1/\z=3):=by omega
 rcases this with⟨rfl,rfl⟩|⟨rfl,rfl⟩|⟨rfl,rfl⟩|⟨rfl,rfl⟩|⟨rfl,rfl⟩|⟨rfl,rfl⟩|⟨rfl,rfl⟩|⟨rfl,rfl⟩<;>rfl
theorem Bx.putL{w:World}{P:Nat}{s:Bs}{B:Bd}(h:Bx w P s B){p z:Nat}(hp:p<2)(hz:z<4)(v:Sl)(l:List Int):Bx (w.setCell ⟨P,1+p*14+5+z,none⟩ v.v) P (s.setZ p z v) (B.setL p z l):=by
 have h1:=h.putZ hp hz v;unfold Bx at*
 rw[setL_cells _ _ _ hp hz];exact h1
theorem BdO.newZ{lo hi lo2 hi2 hi3:Nat}{w:World}{s:Bs}{B:Bd}(h:BdO lo hi w s B){p z:Nat}(hp:p<2)(hz:z<4)(v:Sl)(l:List Int)(hv:Ox ic 1 3 lo2 hi2 w v.v l)(hd:hi<=lo2)(hlo:lo<=lo2)(h3:hi2<=hi3)(h4:hi<=hi3):BdO lo hi3 w (s.setZ p z v) (B.setL p z l):=by
 obtain⟨r1,r2,r3,r4⟩:=setL_rest B l hp hz
 obtain⟨q1,q2,q3,q4,q5⟩:=setZ_rest s v hp hz
 refine⟨by rw[r1,q1];exact h.ob.mono (Nat.le_refl _) h4,fun j hj=> ?_,fun i j hi2 hj hij b hb=> ?_,by rw[r2,q2];exact h.st.mono (Nat.le_refl _) h4,by rw[r3,q3];exact h.qu.mono (Nat.le_refl _) h4,by rw[q2,q3];exact h.ns,by rw[r4,q4];exact h.bl.mono (Nat.le_refl _) h4⟩
 ·rw[setZ_isl s v hp hz hj,setL_il B l hp hz hj]
  split
  ·exact hv.mono hlo h3
  exact(h.il j hj).mono (Nat.le_refl _) h4
 rw[setZ_isl s v hp hz hi2] at hb
 rw[setZ_isl s v hp hz hj]
 split at hb
 ·rename_i e1
  rw[if_neg (by omega)];intro hb2;have a1:=(hv.blk hb).1;have a2:=((h.il j hj).blk hb2).2.1;omega
 split
 ·intro hb2
  have a1:=(hv.blk hb2).1;have a2:=((h.il i hi2).blk hb).2.1;omega
 exact h.nd i j hi2 hj hij b hb
theorem BdO.newAt{lo hi lo2 hi2 hi3:Nat}{w:World}{s:Bs}{B:Bd}(h:BdO lo hi w s B)(v:Sl)(l:List Int)(hv:Ox ic 1 3 lo2 hi2 w v.v l)(hd:hi<=lo2)(hlo:lo<=lo2)(h3:hi2<=hi3)(h4:hi<=hi3):BdO lo hi3 w {s with at':=v} {B with att:=l}:=by
 have e1:∀j,j<9->({s with at':=v}:Bs).isl j=if j=8 then v else s.isl j:=fun j hj=>match j,hj with
  |0,_=>rfl
  |1,_=>rfl
  |2,_=>rfl
  |3,_=>rfl
  |4,_=>rfl
  |5,_=>rfl
  |6,_=>rfl
  |7,_=>rfl
  |8,_=>rfl
 have e2:∀j,j<9->({B with att:=l}:Bd).il j=if j=8 then l else B.il j:=fun j hj=>match j,hj with
  |0,_=>rfl
  |1,_=>rfl
  |2,_=>rfl
  |3,_=>rfl
  |4,_=>rfl
  |5,_=>rfl
  |6,_=>rfl
  |7,_=>rfl
  |8,_=>rfl
 refine⟨h.ob.mono (Nat.le_refl _) h4,fun j hj=> ?_,fun i j hi2 hj hij b hb=> ?_,h.st.mono (Nat.le_refl _) h4,h.qu.mono (Nat.le_refl _) h4,h.ns,h.bl.mono (Nat.le_refl _) h4⟩
 ·rw[e1 j hj,e2 j hj]
  split
  ·exact hv.mono hlo h3
  exact(h.il j hj).mono (Nat.le_refl _) h4
 rw[e1 i hi2] at hb
 rw[e1 j hj]
 split at hb
 ·rw[if_neg (by omega)]
  intro hb2;have a1:=(hv.blk hb).1;have a2:=((h.il j hj).blk hb2).2.1;omega
 split
 ·intro hb2
  have a1:=(hv.blk hb2).1;have a2:=((h.il i hi2).blk hb).2.1;omega
 exact h.nd i j hi2 hj hij b hb
theorem BdO.newBl{lo hi lo2 hi2 hi3:Nat}{w:World}{s:Bs}{B:Bd}(h:BdO lo hi w s B)(v:Sl)(l:List Bk)(hv:Ox kc 2 89 lo2 hi2 w v.v l)(hlo:lo<=lo2)(h3:hi2<=hi3)(h4:hi<=hi3):BdO lo hi3 w {s with bl:=v} {B with bl:=l}:=
 ⟨h.ob.mono (Nat.le_refl _) h4,fun j hj=>(h.il j hj).mono (Nat.le_refl _) h4,h.nd,h.st.mono (Nat.le_refl _) h4,h.qu.mono (Nat.le_refl _) h4,h.ns,hv.mono hlo h3⟩
theorem BdO.newOb{lo hi:Nat}{w:World}{s:Bs}{B:Bd}(h:BdO lo hi w s B)(l:List Ob)(hv:Ox oc 12 47 lo hi w s.ob.v l):BdO lo hi w s {B with ob:=l}:=⟨hv,h.il,h.nd,h.st,h.qu,h.ns,h.bl⟩
theorem BdO.newS{lo hi lo2 hi2 hi3:Nat}{w:World}{s:Bs}{B:Bd}(h:BdO lo hi w s B)(v:Sl)(l':List (It×Sl))(hv:Ox itc 5 73 lo2 hi2 w v.v l')(ht:∀x∈l',TgO lo hi w x.2.v x.1.tg)(hd:hi<=lo2)(hlo:lo<=lo2)(h3:hi2<=hi3)(h4:hi<=hi3):BdO lo hi3 w {s with st:=v} {B with st:=l'.map Prod.fst}:=
 ⟨h.ob.mono (Nat.le_refl _) h4,fun j hj=>(h.il j hj).mono (Nat.le_refl _) h4,h.nd,⟨l',rfl,hv.mono hlo h3,fun x hx=>(ht x hx).mono (Nat.le_refl _) h4⟩,h.qu.mono (Nat.le_refl _) h4,fun b hb e=>by
  obtain⟨m,_,hm,_⟩:=h.qu
  have a1:=(hv.blk hb).1;have a2:=(hm.blk e).2.1;omega,h.bl.mono (Nat.le_refl _) h4⟩
end Go.Proofs.YtpbepnpnpopmfaaGreat
namespace Go.Proofs.YtpbepnpnpopmfaaGreat
open Plain
set_option linter.unusedVariables false
set_option linter.unusedSimpArgs false

def itQ(x:It):Prop:=(0<=x.pl/\x.pl<=1)/\(1<=x.id/\x.id<=500)/\(0<=x.cd/\x.cd<=399)/\(0<=x.tr/\x.tr<=1)/\x.tg=[]
theorem itQ_of{x:It}(h:itB x true=true):itQ x:=by
 unfold itB itN at h
 have h2:=of_decide_eq_true (Bool.and_eq_true_iff.1 h).1
 exact⟨h2.1,h2.2.1,h2.2.2.1,⟨h2.2.2.2.2.2.2 rfl,h2.2.2.2.1.2⟩,List.eq_nil_of_length_eq_zero (h2.2.2.2.2.2.1 (h2.2.2.2.2.2.2 rfl))⟩
theorem itQ_B{x:It}(h:itQ x)(q:Bool):itB x q=true:=by
 unfold itB itN;rw[h.2.2.2.2];have h1:=h.1;have h2:=h.2.1;have h3:=h.2.2.1;have h4:=h.2.2.2.1
 simp
 omega
end Go.Proofs.YtpbepnpnpopmfaaGreat
