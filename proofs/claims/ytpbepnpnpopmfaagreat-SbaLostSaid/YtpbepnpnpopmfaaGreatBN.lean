/- A new board with the cards of two decks. A new board with the cards of two decks, by the code. -/
import Derived.Test.YtpbepnpnpopmfaaGreatBPg
import Derived.Test.YtpbepnpnpopmfaaGreatTDx
import Derived.Test.YtpbepnpnpopmfaaGreatBV
import Derived.Test.YtpbepnpnpopmfaaGreatBSm
import Derived.Deep.DeepCutAuto
import Derived.LoopTactic
import Derived.Deep.MidRow
open Go.RowKit Go.Proofs.YtpbepnpnpopmfaaGreat
namespace Go.Proofs.YtpbepnpnpopmfaaGreat.Plain
set_option linter.unusedVariables false
def mkO(p:Int)(i:Nat)(c:Int):Ob:=⟨((i+1:Nat):Int),c,p,0,0,0,0,0,0,false,false,false⟩
def mkL(p:Int):Nat->List Int->List Ob
 |_,[]=>[]
 |i,c::l=>mkO p i c::mkL p (i+1) l
def upL(i n:Nat):List Int:=(List.range n).map (fun j=>((i+j+1:Nat):Int))
def emptyS(life:Int)(l:List Int):Se:=⟨life,0,0,0,0,l,[],[],[],false,false,false,0,0⟩
def newB(life:Int)(d0 d1:List Int):Bd:=⟨mkL 0 0 d0++mkL 1 d0.length d1,emptyS life (upL 0 d0.length),emptyS life (upL d0.length d1.length),[],[],[],[],0,0,0, -1,0⟩
theorem mkL_length(p:Int)(i:Nat)(l:List Int):(mkL p i l).length=l.length:=by
 induction l generalizing i with
 |nil=>rfl
 |cons c l ih=>simp[mkL,ih]
theorem mkL_get(p:Int)(i:Nat)(l:List Int)(k:Nat):(mkL p i l)[k]? =(l[k]?).map (mkO p (i+k)):=by
 induction l generalizing i k with
 |nil=>simp[mkL]
 |cons c l ih=>
  cases k with
  |zero=>simp[mkL]
  |succ k=>
   simp only[mkL,List.getElem?_cons_succ];rw[ih,Nat.add_assoc,Nat.add_comm 1 k]
theorem mkL_snoc(p:Int)(i:Nat)(l:List Int)(c:Int):mkL p i (l++[c])=mkL p i l++[mkO p (i+l.length) c]:=by
 induction l generalizing i with
 |nil=>simp[mkL]
 |cons a l ih=>
  simp only[List.cons_append,mkL,List.length_cons];rw[ih,Nat.add_assoc,Nat.add_comm 1 l.length]
theorem upL_length(i n:Nat):(upL i n).length=n:=by simp[upL]
theorem upL_snoc(i n:Nat):upL i (n+1)=upL i n++[((i+n+1:Nat):Int)]:=by simp[upL,List.range_succ]
theorem upL_get(i n k:Nat):(upL i n)[k]? =if k<n then some ((i+k+1:Nat):Int) else none:=by
 unfold upL;rw[List.getElem?_map]
 by_cases h:k<n
 ·rw[if_pos h,List.getElem?_range h];rfl
 rw[if_neg h,List.getElem?_eq_none (by simp;omega)];rfl
theorem upL_mem{i n:Nat}{z:Int}:z∈upL i n↔∃j,j<n/\z=((i+j+1:Nat):Int):=by
 unfold upL;rw[List.mem_map]
 exact⟨fun⟨j,h,e⟩=>⟨j,List.mem_range.1 h,e.symm⟩,fun⟨j,h,e⟩=>⟨j,List.mem_range.2 h,e.symm⟩⟩
theorem upL_nodup(i n:Nat):(upL i n).Nodup:=by
 refine nodup_of (fun a b x hab ha hb=> ?_);rw[upL_get] at ha hb
 split at ha<;>split at hb<;>simp at ha hb
 omega
theorem newB_ob(life:Int)(d0 d1:List Int)(k:Nat)(o:Ob)(h:(newB life d0 d1).ob[k]? =some o):k<d0.length+d1.length/\o.id=((k+1:Nat):Int)/\(o.cd∈d0\/o.cd∈d1)/\o.po=0/\o.tg=0/\o.da=0/\o.co=0/\o.pp=0/\o.pt=0/\((k<d0.length/\o.ow=0)\/(d0.length<=k/\o.ow=1)):=by
 have hk:=(List.getElem?_eq_some_iff.1 h).1;simp only[newB,List.length_append,mkL_length] at hk
 by_cases h0:k<d0.length
 ·simp only[newB] at h
  rw[List.getElem?_append_left (by rw[mkL_length];exact h0),mkL_get,List.getElem?_eq_getElem h0] at h
  simp only[Option.map_some,Option.some.injEq] at h
  subst h
  exact⟨hk,by simp[mkO],.inl (List.getElem_mem h0),rfl,rfl,rfl,rfl,rfl,rfl,.inl ⟨h0,rfl⟩⟩
 simp only[newB] at h
 rw[List.getElem?_append_right (by rw[mkL_length];omega),mkL_get,mkL_length,List.getElem?_eq_getElem (show k-d0.length<d1.length by omega)] at h
 simp only[Option.map_some,Option.some.injEq] at h
 subst h
 exact⟨hk,by simp[mkO];omega,.inr (List.getElem_mem _),rfl,rfl,rfl,rfl,rfl,rfl,.inr ⟨by omega,rfl⟩⟩
theorem newB_prs(life:Int)(d0 d1:List Int):(newB life d0 d1).prs=pr 0 (upL 0 d0.length)++pr 1 (upL d0.length d1.length):=by
 simp[Bd.prs,newB,emptyS,Se.all,cst]
theorem newB_valid{life:Int}{d0 d1:List Int}(hl:0<=life/\life<=9999)(h0:∀c∈d0,0<=c/\c<=399)(h1:∀c∈d1,0<=c/\c<=399)(hn:d0.length+d1.length<=500):VB (newB life d0 d1):=by
 have se:∀l,seB (emptyS life l)=true:=fun l=>by simp[seB,emptyS,poolB,hl.1,hl.2]
 have ob:∀i o,(newB life d0 d1).ob[i]? =some o->vO o=true/\rise (newB life d0 d1).ob i o/\(o.id,o.ow)∈(newB life d0 d1).prs/\∀x∈cst (newB life d0 d1).st,x.id=o.id->x.cd=o.cd:=fun i o h=>by
  obtain⟨a1,a2,a3,a4,a5,a6,a7,a8,a9,a10⟩:=newB_ob life d0 d1 i o h
  have hc:0<=o.cd/\o.cd<=399:=a3.elim (h0 _) (h1 _)
  refine⟨?_,?_,?_,?_⟩
  ·simp only[vO,decide_eq_true_eq]
   refine⟨by omega,by omega,by omega,by omega,by omega,by omega,by omega,by omega,by omega,by omega,by omega,by omega⟩
  ·intro j q hj hq
   obtain⟨_,b2,_⟩:=newB_ob life d0 d1 j q hq
   omega
  ·rw[newB_prs,List.mem_append]
   rcases a10 with⟨hk,ho⟩|⟨hk,ho⟩
   ·exact .inl (List.mem_map.2 ⟨o.id,upL_mem.2 ⟨i,hk,by rw[a2];simp⟩,by rw[ho]⟩)
   exact .inr (List.mem_map.2 ⟨o.id,upL_mem.2 ⟨i-d0.length,by omega,by rw[a2];omega⟩,by rw[ho]⟩)
  intro x hx;simp[newB,cst] at hx
 refine⟨?_,se _,se _,?_,⟨?_,ob,?_⟩,?_⟩
 ·simp only[vNum,newB,List.length_append,mkL_length,List.length_nil]
  omega
 ·exact⟨by simp[newB],by simp[newB]⟩
 ·rw[newB_prs]
  simp only[pr,List.map_append,List.map_map];have e:∀(p:Int) (l:List Int),l.map (Prod.fst∘fun i=>(i,p))=l:=fun p l=>by rw[show(Prod.fst∘fun i:Int=>(i,p))=id from rfl,List.map_id]
  rw[e,e];refine List.nodup_append.2 ⟨upL_nodup _ _,upL_nodup _ _,fun a ha b hb=> ?_⟩
  obtain⟨j,hj,rfl⟩:=upL_mem.1 ha
  obtain⟨k,hk,rfl⟩:=upL_mem.1 hb
  omega
 ·rw[newB_prs]
  simp[pr,upL_length,newB,mkL_length]
 refine⟨by simp[newB],by simp[newB],by simp[newB],by simp[newB],by simp[newB]⟩
def numB(l0 l1:Int)(L:List Ob)(U0 U1:List Int):Bd:=⟨L,emptyS l0 U0,emptyS l1 U1,[],[],[],[],0,0,0, -1,0⟩
theorem np_ob0{d0:List Int}{i:Nat}{c:Int}(h:d0[i]? =some c):mkL 0 0 (d0.take i)++[mkO 0 i c]=mkL 0 0 (d0.take (i+1)):=by
 have hi:=(List.getElem?_eq_some_iff.1 h).1;rw[List.take_add_one,h]
 show _=mkL 0 0 (d0.take i++[c])
 rw[mkL_snoc,List.length_take,Nat.min_eq_left (by omega),Nat.zero_add]
theorem np_ob1(d0:List Int){d1:List Int}{i:Nat}{c:Int}(h:d1[i]? =some c):(mkL 0 0 d0++mkL 1 d0.length (d1.take i))++[mkO 1 (d0.length+i) c]=mkL 0 0 d0++mkL 1 d0.length (d1.take (i+1)):=by
 have hi:=(List.getElem?_eq_some_iff.1 h).1;rw[List.take_add_one,h]
 show _=mkL 0 0 d0++mkL 1 d0.length (d1.take i++[c])
 rw[mkL_snoc,List.length_take,Nat.min_eq_left (by omega),List.append_assoc]
end Go.Proofs.YtpbepnpnpopmfaaGreat.Plain
namespace Go.Proofs.YtpbepnpnpopmfaaGreat
open Plain
set_option linter.unusedVariables false
set_option linter.unusedSimpArgs false

def nsB(so s0 s1:Sl):Bs:={nilS with ob:=so,l0:=s0,l1:=s1}
structure NwI(w:World)(l0 l1:Int)(L:List Ob)(U0 U1:List Int)(so s0 s1:Sl)(wr:World):Prop where
 below:Below w.heap.size w wr
 sz:(w.heap.size+1+1+1)<=wr.heap.size
 box:Bx wr (w.heap.size+1+1) (nsB so s0 s1) (numB l0 l1 L U0 U1)
 ob:Ow oc 12 47 wr (w.heap.size+1+1+1) so.v L
 r0:Ow ic 1 3 wr (w.heap.size+1+1+1) s0.v U0
 r1:Ow ic 1 3 wr (w.heap.size+1+1+1) s1.v U1
 nd:∀b,s0.v.ownBlock=some b->s1.v.ownBlock≠some b
 rz:Bx wr (w.heap.size+1) nilS zeroB
theorem NwI.keep{w:World}{l0 l1:Int}{L:List Ob}{U0 U1:List Int}{so s0 s1:Sl}{W W':World}(h:NwI w l0 l1 L U0 U1 so s0 s1 W)(hb:Below W.heap.size W W'):NwI w l0 l1 L U0 U1 so s0 s1 W':=
 ⟨below_via h.below hb,Nat.le_trans h.sz hb.size,h.box.below hb,h.ob.below hb,h.r0.below hb,h.r1.below hb,h.nd,h.rz.below hb⟩
theorem NwI.life{w:World}{l0 l1 l0' l1':Int}{L:List Ob}{U0 U1:List Int}{so s0 s1:Sl}{W:World}(h:NwI w l0 l1 L U0 U1 so s0 s1 W)(i:Nat)(v:Value)(he:(bcells (nsB so s0 s1) (numB l0 l1 L U0 U1)).setIfInBounds i v=bcells (nsB so s0 s1) (numB l0' l1' L U0 U1)):NwI w l0' l1' L U0 U1 so s0 s1 (W.setCell ⟨(w.heap.size+1+1),i,none⟩ v):=by
 have ho:Onl [(w.heap.size+1+1)] W (W.setCell ⟨(w.heap.size+1+1),i,none⟩ v):=Onl.setCell (Onl.refl _ _) (.inl (by simp)) _;have hne:∀(e:TypeId) (z:Nat) (u:Value) (cs:List Value),True:=fun _ _ _ _=>trivial
 exact⟨belowOnl h.below ho (by simp;omega) h.below.size,Nat.le_trans h.sz ho.size,h.box.put i v he,h.ob.onl ho (fun b hb=>by have:=(h.ob.typ b hb).1;simp;omega),h.r0.onl ho (fun b hb=>by have:=(h.r0.typ b hb).1;simp;omega),h.r1.onl ho (fun b hb=>by have:=(h.r1.typ b hb).1;simp;omega),h.nd,h.rz.onl ho (by simp)⟩
theorem NwI.app{w:World}{l0 l1:Int}{L L':List Ob}{U0 U1:List Int}{so so' s0 s1:Sl}{W wb:World}(h:NwI w l0 l1 L U0 U1 so s0 s1 W)(hown:Ow oc 12 47 wb (w.heap.size+1+1+1) so'.v L')(hg:W.grownBy wb so.v.ownBlock):NwI w l0 l1 L' U0 U1 so' s0 s1 (wb.setCell ⟨(w.heap.size+1+1),0,none⟩ so'.v):=by
 have ho:Onl [(w.heap.size+1+1)] wb (wb.setCell ⟨(w.heap.size+1+1),0,none⟩ so'.v):=Onl.setCell (Onl.refl _ _) (.inl (by simp)) _;have hb:Below w.heap.size w wb:=h.below.grown hg h.below.size (fun q hq=>by have:=(h.ob.typ q hq).1;omega);have hx:∀k:Nat,k<(w.heap.size+1+1+1)->wb.heap[k]? =W.heap[k]? :=fun k hk=>hg.block k (by have:=h.sz;omega) (fun e=>by have:=(h.ob.typ k e.symm).1;omega)
 have hbx:Bx wb (w.heap.size+1+1) (nsB so s0 s1) (numB l0 l1 L U0 U1):=(hx _ (by omega)).trans h.box;have hrz:Bx wb (w.heap.size+1) nilS zeroB:=(hx _ (by omega)).trans h.rz;have k0:=h.r0.grown hg (fun b hb e=>h.ob.ne h.r0 (by decide) b e hb);have k1:=h.r1.grown hg (fun b hb e=>h.ob.ne h.r1 (by decide) b e hb)
 exact⟨belowOnl hb ho (by simp;omega) hb.size,Nat.le_trans h.sz (Nat.le_trans hg.size ho.size),hbx.put 0 _ rfl,hown.onl ho (fun b hb=>by have:=(hown.typ b hb).1;simp;omega),k0.onl ho (fun b hb=>by have:=(k0.typ b hb).1;simp;omega),k1.onl ho (fun b hb=>by have:=(k1.typ b hb).1;simp;omega),h.nd,hrz.onl ho (by simp)⟩
theorem NwI.lib0{w:World}{l0 l1:Int}{L:List Ob}{U0 U1 U':List Int}{so s0 s1 s':Sl}{W wb:World}(h:NwI w l0 l1 L U0 U1 so s0 s1 W)(hown:Ow ic 1 3 wb (w.heap.size+1+1+1) s'.v U')(hg:W.grownBy wb s0.v.ownBlock)(hn:s'.v.ownBlock=s0.v.ownBlock\/s'.v.ownBlock=some W.heap.size):NwI w l0 l1 L U' U1 so s' s1 (wb.setCell ⟨(w.heap.size+1+1),6,none⟩ s'.v):=by
 have ho:Onl [(w.heap.size+1+1)] wb (wb.setCell ⟨(w.heap.size+1+1),6,none⟩ s'.v):=Onl.setCell (Onl.refl _ _) (.inl (by simp)) _;have hb:Below w.heap.size w wb:=h.below.grown hg h.below.size (fun q hq=>by have:=(h.r0.typ q hq).1;omega);have hx:∀k:Nat,k<(w.heap.size+1+1+1)->wb.heap[k]? =W.heap[k]? :=fun k hk=>hg.block k (by have:=h.sz;omega) (fun e=>by have:=(h.r0.typ k e.symm).1;omega)
 have hbx:Bx wb (w.heap.size+1+1) (nsB so s0 s1) (numB l0 l1 L U0 U1):=(hx _ (by omega)).trans h.box;have hrz:Bx wb (w.heap.size+1) nilS zeroB:=(hx _ (by omega)).trans h.rz;have k0:=h.ob.grown hg (fun b hb e=>h.ob.ne h.r0 (by decide) b hb e);have k1:=h.r1.grown hg (fun b hb e=>h.nd b e hb)
 have nd:∀b,s'.v.ownBlock=some b->s1.v.ownBlock≠some b:=by
  intro b h1 h2;rcases hn with e|e
  ·exact h.nd b (e▸h1) h2
  rw[h1] at e
  have:=(h.r1.typ b h2).2.1
  simp at e
  omega
 exact⟨belowOnl hb ho (by simp;omega) hb.size,Nat.le_trans h.sz (Nat.le_trans hg.size ho.size),hbx.put 6 _ rfl,k0.onl ho (fun b hb=>by have:=(k0.typ b hb).1;simp;omega),hown.onl ho (fun b hb=>by have:=(hown.typ b hb).1;simp;omega),k1.onl ho (fun b hb=>by have:=(k1.typ b hb).1;simp;omega),nd,hrz.onl ho (by simp)⟩
theorem NwI.lib1{w:World}{l0 l1:Int}{L:List Ob}{U0 U1 U':List Int}{so s0 s1 s':Sl}{W wb:World}(h:NwI w l0 l1 L U0 U1 so s0 s1 W)(hown:Ow ic 1 3 wb (w.heap.size+1+1+1) s'.v U')(hg:W.grownBy wb s1.v.ownBlock)(hn:s'.v.ownBlock=s1.v.ownBlock\/s'.v.ownBlock=some W.heap.size):NwI w l0 l1 L U0 U' so s0 s' (wb.setCell ⟨(w.heap.size+1+1),20,none⟩ s'.v):=by
 have ho:Onl [(w.heap.size+1+1)] wb (wb.setCell ⟨(w.heap.size+1+1),20,none⟩ s'.v):=Onl.setCell (Onl.refl _ _) (.inl (by simp)) _;have hb:Below w.heap.size w wb:=h.below.grown hg h.below.size (fun q hq=>by have:=(h.r1.typ q hq).1;omega);have hx:∀k:Nat,k<(w.heap.size+1+1+1)->wb.heap[k]? =W.heap[k]? :=fun k hk=>hg.block k (by have:=h.sz;omega) (fun e=>by have:=(h.r1.typ k e.symm).1;omega)
 have hbx:Bx wb (w.heap.size+1+1) (nsB so s0 s1) (numB l0 l1 L U0 U1):=(hx _ (by omega)).trans h.box;have hrz:Bx wb (w.heap.size+1) nilS zeroB:=(hx _ (by omega)).trans h.rz;have k0:=h.ob.grown hg (fun b hb e=>h.ob.ne h.r1 (by decide) b hb e);have k1:=h.r0.grown hg (fun b hb e=>h.nd b hb e)
 have nd:∀b,s0.v.ownBlock=some b->s'.v.ownBlock≠some b:=by
  intro b h1 h2;rcases hn with e|e
  ·exact h.nd b h1 (e▸h2)
  rw[h2] at e
  have:=(h.r0.typ b h1).2.1
  simp at e
  omega
 exact⟨belowOnl hb ho (by simp;omega) hb.size,Nat.le_trans h.sz (Nat.le_trans hg.size ho.size),hbx.put 20 _ rfl,k0.onl ho (fun b hb=>by have:=(k0.typ b hb).1;simp;omega),k1.onl ho (fun b hb=>by have:=(k1.typ b hb).1;simp;omega),hown.onl ho (fun b hb=>by have:=(hown.typ b hb).1;simp;omega),nd,hrz.onl ho (by simp)⟩
theorem NwI.bxo{w:World}{l0 l1:Int}{L:List Ob}{U0 U1:List Int}{so s0 s1:Sl}{W wb:World}(h:NwI w l0 l1 L U0 U1 so s0 s1 W)(hg:W.grownBy wb so.v.ownBlock):Bx wb (w.heap.size+1+1) (nsB so s0 s1) (numB l0 l1 L U0 U1):=
 (hg.block _ (by have:=h.sz;omega) (fun e=>by have:=(h.ob.typ _ e.symm).1;omega)).trans h.box
theorem NwI.bx0{w:World}{l0 l1:Int}{L:List Ob}{U0 U1:List Int}{so s0 s1:Sl}{W wb:World}(h:NwI w l0 l1 L U0 U1 so s0 s1 W)(hg:W.grownBy wb s0.v.ownBlock):Bx wb (w.heap.size+1+1) (nsB so s0 s1) (numB l0 l1 L U0 U1):=
 (hg.block _ (by have:=h.sz;omega) (fun e=>by have:=(h.r0.typ _ e.symm).1;omega)).trans h.box
theorem NwI.bx1{w:World}{l0 l1:Int}{L:List Ob}{U0 U1:List Int}{so s0 s1:Sl}{W wb:World}(h:NwI w l0 l1 L U0 U1 so s0 s1 W)(hg:W.grownBy wb s1.v.ownBlock):Bx wb (w.heap.size+1+1) (nsB so s0 s1) (numB l0 l1 L U0 U1):=
 (hg.block _ (by have:=h.sz;omega) (fun e=>by have:=(h.r1.typ _ e.symm).1;omega)).trans h.box
theorem NwI.own{w:World}{so s0 s1:Sl}{W W9:World}(life:Int)(d0 d1:List Int)(h:NwI w life life (mkL 0 0 d0++mkL 1 d0.length d1) (upL 0 d0.length) (upL d0.length d1.length) so s0 s1 W)(ho:Onl [(w.heap.size+1)] W W9):BdO w.heap.size W9.heap.size W9 (nsB so s0 s1) (newB life d0 d1):=by
 have q0:=h.ob.onl ho (fun b hb=>by have:=(h.ob.typ b hb).1;simp;omega);have q1:=h.r0.onl ho (fun b hb=>by have:=(h.r0.typ b hb).1;simp;omega);have q2:=h.r1.onl ho (fun b hb=>by have:=(h.r1.typ b hb).1;simp;omega);have x0:Ox oc 12 47 w.heap.size W9.heap.size W9 so.v _:=(Ox.of q0).mono (by omega) (Nat.le_refl _);have x1:Ox ic 1 3 w.heap.size W9.heap.size W9 s0.v _:=(Ox.of q1).mono (by omega) (Nat.le_refl _);have x2:Ox ic 1 3 w.heap.size W9.heap.size W9 s1.v _:=(Ox.of q2).mono (by omega) (Nat.le_refl _);have nil:∀b,nilSl.v.ownBlock=some b->False:=fun b hb=>by simp[nilSl,Sl.v,Value.ownBlock] at hb
 have key:∀j,j<9->Ox ic 1 3 w.heap.size W9.heap.size W9 ((nsB so s0 s1).isl j).v ((newB life d0 d1).il j)/\(j=0\/j=4\/(nsB so s0 s1).isl j=nilSl):=fun j hj=>match j,hj with
  |0,_=>⟨x1,.inl rfl⟩
  |1,_=>⟨Ox.nil _ _ _ _,.inr (.inr rfl)⟩
  |2,_=>⟨Ox.nil _ _ _ _,.inr (.inr rfl)⟩
  |3,_=>⟨Ox.nil _ _ _ _,.inr (.inr rfl)⟩
  |4,_=>⟨x2,.inr (.inl rfl)⟩
  |5,_=>⟨Ox.nil _ _ _ _,.inr (.inr rfl)⟩
  |6,_=>⟨Ox.nil _ _ _ _,.inr (.inr rfl)⟩
  |7,_=>⟨Ox.nil _ _ _ _,.inr (.inr rfl)⟩
  |8,_=>⟨Ox.nil _ _ _ _,.inr (.inr rfl)⟩
 refine⟨x0,fun j hj=>(key j hj).1,?_,ItO.nil _ _ _,ItO.nil _ _ _,fun b hb=>(nil b hb).elim,Ox.nil _ _ _ _⟩
 intro i j hi hj hij b h1 h2
 rcases(key i hi).2 with rfl|rfl|e
 ·rcases(key j hj).2 with rfl|rfl|e2
  ·exact hij rfl
  ·exact h.nd b h1 h2
  rw[e2] at h2;exact nil b h2
 ·rcases(key j hj).2 with rfl|rfl|e2
  ·exact h.nd b h2 h1
  ·exact hij rfl
  rw[e2] at h2;exact nil b h2
 rw[e] at h1;exact nil b h1
theorem Ow.sl{α:Type}{f:α->List Value}{sz:Nat}{e:TypeId}{w:World}{base:Nat}{v:Value}{l:List α}(h:Ow f sz e w base v l):∃s:Sl,v=s.v/\s.n=l.length:=by
 obtain⟨a,c,rfl⟩:=h.form
 exact⟨⟨a,l.length,c⟩,rfl,rfl⟩
theorem ix20(a b:Option Addr)(n c m d:Nat)(w:World):(Instr.index 78 (.agg #[.slice a n c,.slice b m d]) (.int .i64 0)).run Tryz.prog w= .ok (.slice a n c) w:=by
 have e:(Instr.index 78 (.agg #[.slice a n c,.slice b m d]) (.int .i64 0)).run Tryz.prog w= .ok (.slice a n c) w:=by kernel_rfl
 exact e
theorem ix21(a b:Option Addr)(n c m d:Nat)(w:World):(Instr.index 78 (.agg #[.slice a n c,.slice b m d]) (.int .i64 1)).run Tryz.prog w= .ok (.slice b m d) w:=by
 have e:(Instr.index 78 (.agg #[.slice a n c,.slice b m d]) (.int .i64 1)).run Tryz.prog w= .ok (.slice b m d) w:=by kernel_rfl
 exact e
def NwO(w:World)(life:Int)(d0 d1:List Int)(v:Value)(wr:World):Prop:=∃p:Nat,p<=2/\v= .int .i64 p/\∃so s0 s1,NwI w (if 1<=p then life else 0) (if 2<=p then life else 0) (mkL 0 0 (if 1<=p then d0 else [])++mkL 1 (if 1<=p then d0 else []).length (if 2<=p then d1 else [])) (upL 0 (if 1<=p then d0 else []).length) (upL (if 1<=p then d0 else []).length (if 2<=p then d1 else []).length) so s0 s1 wr
def NwJ0(w:World)(life:Int)(d0:List Int)(v:Value)(wr:World):Prop:=∃i:Nat,i<=d0.length/\v= .int .i64 i/\∃so s0 s1,NwI w life 0 (mkL 0 0 (d0.take i)) (upL 0 i) [] so s0 s1 wr
def NwJ1(w:World)(life:Int)(d0 d1:List Int)(v:Value)(wr:World):Prop:=∃i:Nat,i<=d1.length/\v= .int .i64 i/\∃so s0 s1,NwI w life life (mkL 0 0 d0++mkL 1 d0.length (d1.take i)) (upL 0 d0.length) (upL d0.length i) so s0 s1 wr
end Go.Proofs.YtpbepnpnpopmfaaGreat
