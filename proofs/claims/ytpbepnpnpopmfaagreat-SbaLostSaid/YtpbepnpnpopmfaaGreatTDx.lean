/- Functions that return a board. Rows that are written as a whole. Values of some cells in boxes; rows that shrink and are cleared. DeleteFunc of items. -/
import Derived.Test.YtpbepnpnpopmfaaGreatBCc
import Derived.Test.YtpbepnpnpopmfaaGreatBOw
import Derived.Test.YtpbepnpnpopmfaaGreatBRg
import Derived.Deep.DeepCutAuto
import Derived.LoopTactic
import Derived.Deep.MidRow
import Derived.Test.YtpbepnpnpopmfaaGreatBRi
import Derived.Test.YtpbepnpnpopmfaaGreatTFi
import Derived.Test.YtpbepnpnpopmfaaGreatBSm
import Derived.Lib.SliceRun
open Go.RowKit Go.Proofs.YtpbepnpnpopmfaaGreat
set_option maxRecDepth 100000
set_option maxHeartbeats 4000000
namespace Go.Proofs.YtpbepnpnpopmfaaGreat
open Plain
set_option linter.unusedVariables false
set_option linter.unusedSimpArgs false

theorem wpList_store_bh{ops:Array Oper}{rest:List Oper}{op:Oper}{a:Act}{w:World}{Q:Exit->Act->World->Prop}(hgd:op.guard=none){P:Nat}{s:Bs}{B:Bd}(x y:Operand)(ho:op.op= .store 34 x y)(hx:a.eval x= .pointer (some ⟨P,0,none⟩))(hy:a.eval y=bv s B){old:Array Value}(hg:w.heap[P]? =some (.cells old 34 (0,0)))(hsz:old.size=38)
  (hK:∀w',Hid (w' =w.setRow P (bcells s B))->wpList Tryz.prog ops Q rest (a.put op.dst undef) w'):wpList Tryz.prog ops Q (op::rest) a w:=
 wpList_store_bx hgd x y ho hx hy hg hsz (fun w' h=>hK w' (Hd h))
theorem zeroOwn(lo hi:Nat)(w:World):BdO lo hi w nilS zeroB:=by
 have n:∀j,j<9->nilS.isl j=nilSl/\zeroB.il j=[]:=fun j hj=>match j,hj with
  |0,_=>⟨rfl,rfl⟩
  |1,_=>⟨rfl,rfl⟩
  |2,_=>⟨rfl,rfl⟩
  |3,_=>⟨rfl,rfl⟩
  |4,_=>⟨rfl,rfl⟩
  |5,_=>⟨rfl,rfl⟩
  |6,_=>⟨rfl,rfl⟩
  |7,_=>⟨rfl,rfl⟩
  |8,_=>⟨rfl,rfl⟩
 exact⟨Ox.nil _ _ _ _,fun j hj=>by rw[(n j hj).1,(n j hj).2];exact Ox.nil _ _ _ _,fun i j hi2 _ _ b hb=>by rw[(n i hi2).1] at hb;simp[nilSl,Sl.v,Value.ownBlock] at hb,ItO.nil _ _ _,ItO.nil _ _ _,fun b hb=>by simp[nilS,nilSl,Sl.v,Value.ownBlock] at hb,Ox.nil _ _ _ _⟩
def BrA(w:World)(B:Bd)(y:Value)(e:Ending)(w':World):Prop:=∃s',e= .returned (.tuple #[bv s' B,y])/\BdO w.heap.size w'.heap.size w' s' B/\Below w.heap.size w w'
def BrP(w:World)(B:Bd)(y z:Value)(e:Ending)(w':World):Prop:=∃s',e= .returned (.tuple #[bv s' B,y,z])/\BdO w.heap.size w'.heap.size w' s' B/\Below w.heap.size w w'
theorem results_b0{fn:Func}{p:Tmp}(h:fn.results= #[.cell p 34])(tmps:Array Value)(w:World){P:Nat}{s:Bs}{B:Bd}(hx:Bx w P s B)(hp:tmps.getD p undef= .pointer (some ⟨P,0,none⟩)):(results fn tmps).run Tryz.prog w= .ok (bv s B) w:=
 results_cell_row h tmps w P 34 _ (0,0) _ hp hx Tryz.underlying34 rfl (by kernel_rfl)
theorem results_b1{fn:Func}{p u:Tmp}(h:fn.results= #[.cell p 34,.tmp u])(tmps:Array Value)(w:World){P:Nat}{s:Bs}{B:Bd}{y:Value}(hx:Bx w P s B)(hp:tmps.getD p undef= .pointer (some ⟨P,0,none⟩))(hy:tmps.getD u undef=y):(results fn tmps).run Tryz.prog w= .ok (.tuple #[bv s B,y]) w:=by
 have hl:(loadVar 34 ⟨P,0,none⟩).run Tryz.prog w= .ok (bv s B) w:=run_loadVar_row w P 34 34 _ (0,0) _ hx Tryz.underlying34 rfl (by kernel_rfl);rw[results_cell_tmp h,hp,hy];simp[asAddr,hl]
theorem results_b2{fn:Func}{p u v:Tmp}(h:fn.results= #[.cell p 34,.tmp u,.tmp v])(tmps:Array Value)(w:World){P:Nat}{s:Bs}{B:Bd}{y z:Value}(hx:Bx w P s B)(hp:tmps.getD p undef= .pointer (some ⟨P,0,none⟩))(hy:tmps.getD u undef=y)(hz:tmps.getD v undef=z):(results fn tmps).run Tryz.prog w= .ok (.tuple #[bv s B,y,z]) w:=by
 have hl:(loadVar 34 ⟨P,0,none⟩).run Tryz.prog w= .ok (bv s B) w:=run_loadVar_row w P 34 34 _ (0,0) _ hx Tryz.underlying34 rfl (by kernel_rfl);have hp':tmps[p]?.getD undef= .pointer (some ⟨P,0,none⟩):=by simpa using hp
 have hy':tmps[u]?.getD undef=y:=by simpa using hy
 have hz':tmps[v]?.getD undef=z:=by simpa using hz
 simp only[results,h];simp[Sem.run_bind,Result.andThen,asAddr,hl,hp',hy',hz']
theorem boxed{W W':World}{old:Array Value}{s:Bs}{B:Bd}(h:W' =(W.alloc (.cells old 34)).setRow W.heap.size (bcells s B)):Below W.heap.size W W'/\Bx W' W.heap.size s B:=by
 have b1:Below W.heap.size W (W.alloc (.cells old 34)):=(Below.refl _ _).alloc (Nat.le_refl _) _
 exact⟨belowOnl b1 (by rw[h];exact Onl.setRow (Onl.refl _ _) (.inl (by simp)) _:Onl [W.heap.size] _ W') (by simp) b1.size,by rw[h];exact Bx.row (heap_alloc_new _ _) s B⟩
end Go.Proofs.YtpbepnpnpopmfaaGreat
namespace Go.Proofs.YtpbepnpnpopmfaaGreat
open Plain
set_option linter.unusedVariables false
set_option linter.unusedSimpArgs false

theorem Ro.onl{w w':World}{P:Nat}{C:Array Value}{t:TypeId}{S:List Nat}(h:Ro w P C t)(ho:Onl S w w')(hS:P∉S):Ro w' P C t:=(ho.block P h.lt hS).trans h
theorem wpList_store_ro{P:Program}{ops:Array Oper}{rest:List Oper}{op:Oper}{a:Act}{w:World}{Q:Exit->Act->World->Prop}(T:TypeId)(hgd:op.guard=none){b:Nat}{C old:Array Value}(x y:Operand)(ho:op.op= .store T x y)(hx:a.eval x= .pointer (some ⟨b,0,none⟩))(hy:a.eval y= .agg C)(hg:Ro w b old T)(hi:(P.info? T).map (·.size)=some C.size)(hsz:old.size=C.size)(h1:C.all (·.oneCell')=true)
  (hK:wpList P ops Q rest (a.put op.dst undef) (w.setRow b C)):wpList P ops Q (op::rest) a w:=
 wpList_store_row hgd T x y ho b C hx hy T old hg hi hsz h1 hK
end Go.Proofs.YtpbepnpnpopmfaaGreat
namespace Go.Proofs.YtpbepnpnpopmfaaGreat
open Plain
set_option linter.unusedVariables false
set_option linter.unusedSimpArgs false

theorem wpList_load_ro{ops:Array Oper}{rest:List Oper}{op:Oper}{a:Act}{w:World}{Q:Exit->Act->World->Prop}(hgd:op.guard=none){P:Nat}(T:TypeId)(C:Array Value)(x:Operand)(ho:op.op= .load T x)(hx:a.eval x= .pointer (some ⟨P,0,none⟩))(h:Ro w P C T){d:TypeDesc}(hu:Tryz.prog.underlying T=some d)(hd:d.isRow=true)(hi:(Tryz.prog.info? T).map (·.size)=some C.size)
  (hK:wpList Tryz.prog ops Q rest (a.put op.dst (.agg C)) w):wpList Tryz.prog ops Q (op::rest) a w:=
 wpList_load_mid hgd T x ho P 0 hx C.toList d (fun j u hu=>by rw[Nat.zero_add,h.cell j];simpa using hu) hu hd (by simpa using hi) (by simpa using hK)
theorem wpList_store_rh{ops:Array Oper}{rest:List Oper}{op:Oper}{a:Act}{w:World}{Q:Exit->Act->World->Prop}(hgd:op.guard=none){P:Nat}(T:TypeId)(C:Array Value)(x y:Operand)(ho:op.op= .store T x y)(hx:a.eval x= .pointer (some ⟨P,0,none⟩))(hy:a.eval y= .agg C){old:Array Value}(hg:Ro w P old T)(hi:(Tryz.prog.info? T).map (·.size)=some C.size)(hsz:old.size=C.size)(h1:C.all (·.oneCell')=true)
  (hK:∀w',Hid (w' =w.setRow P C)->wpList Tryz.prog ops Q rest (a.put op.dst undef) w'):wpList Tryz.prog ops Q (op::rest) a w:=
 wpList_store_ro T hgd x y ho hx hy hg hi hsz h1 (hK _ (Hd rfl))
theorem boxed_r{W W':World}{old C:Array Value}{T:TypeId}(h:W' =(W.alloc (.cells old T)).setRow W.heap.size C):Below W.heap.size W W'/\Ro W' W.heap.size C T:=by
 have b1:Below W.heap.size W (W.alloc (.cells old T)):=(Below.refl _ _).alloc (Nat.le_refl _) _
 exact⟨belowOnl b1 (by rw[h];exact Onl.setRow (Onl.refl _ _) (.inl (by simp)) _:Onl [W.heap.size] _ W') (by simp) b1.size,by rw[h];exact setRow_heap _ _ _ _ T _ (heap_alloc_new _ _)⟩
theorem wpList_store_mh{ops:Array Oper}{rest:List Oper}{op:Oper}{a:Act}{w:World}{Q:Exit->Act->World->Prop}(hgd:op.guard=none)(T:TypeId)(x y:Operand)(ho:op.op= .store T x y)(b o:Nat)(C:Array Value)(hx:a.eval x= .pointer (some ⟨b,o,none⟩))(hy:a.eval y= .agg C)(ht:w.there b o C.size)(hi:(Tryz.prog.info? T).map (·.size)=some C.size)(h1:C.all (·.oneCell')=true)
  (hK:∀w',Hid (w' =w.setCells b o C.toList)->wpList Tryz.prog ops Q rest (a.put op.dst undef) w'):wpList Tryz.prog ops Q (op::rest) a w:=
 wpList_store_mid hgd T x y ho b o C hx hy ht hi h1 (hK _ (Hd rfl))
theorem arr_one{cs:List Value}(h:∀u∈cs,u.oneCell' =true):cs.toArray.all (·.oneCell')=true:=all_oneCell_toArray h
theorem run_clear_n{P:Program}(w:World)(t e ty:TypeId)(z:Value)(ht:P.underlying t=some (.slice e))(hv:∀w,(zeroValue e).run P w= .ok z w)(h1:∀u∈z.cells.toList,u.oneCell' =true)(b o n c:Nat)
  (hc:∀j,j<n*z.cells.size->(w.cell? ⟨b,o+j,none⟩).isSome=true) (hf:∀j,j<n*z.cells.size->w.frozen? ⟨b,o+j,none⟩=false):
  (Builtin.clear_ #[t] ty #[.slice (some ⟨b,o,none⟩) n c]).run P w= .ok (.tuple #[]) (w.setCells b o (if n=0 then [] else (Builtin.zeroCells z.cells n).toList)):=by
 cases n with
 |zero=>simp[Builtin.clear_,run_underlying ht,World.setCells]
 |succ m=>
  have hl:(Builtin.zeroCells z.cells (m+1)).toList.length=(m+1)*z.cells.size:=by simp[Builtin.zeroCells]
  have hst:=run_storeCells_cells (P:=P) b o (Builtin.zeroCells z.cells (m+1)).toList 0 w (by rw[hl];simpa using hc) (by rw[hl];simpa using hf) (by
   intro u hu;rw[Array.mem_toList_iff] at hu
   unfold Builtin.zeroCells at hu
   obtain⟨i,hi,rfl⟩:=Array.mem_map.1 hu
   have hpos:0<z.cells.size:=by
    rcases Nat.eq_zero_or_pos z.cells.size with h0|h0
    ·rw[h0] at hi;simp at hi
    exact h0
   have h3:i%z.cells.size<z.cells.size:=Nat.mod_lt _ hpos;rw[getElem!_pos z.cells _ h3];exact h1 _ (by rw[Array.mem_toList_iff];exact Array.getElem_mem h3))
  simp only[Nat.add_zero] at hst
  simp[Builtin.clear_,run_underlying ht,hv,hst]
theorem owns_past{w:World}{base:Nat}{e:TypeId}{size g n cap:Nat}{xs:List Value}:∀(vs:List Value) (o:Nat) (w:World),w.ownsRow base e size (.slice (some ⟨g,0,none⟩) n cap) n xs->n*size<=o->(w.setCells g o vs).ownsRow base e size (.slice (some ⟨g,0,none⟩) n cap) n xs
 |[],_,_,h,_=>h
 |u::vs,o,w,h,hge=>by
  have h1:=(h.stored o u).1;have h2:xs.set o u=xs:=List.set_eq_of_length_le (by rw[h.1];exact hge);rw[h2] at h1
  exact owns_past (w:=w) vs (o+1) _ h1 (by omega)
section
variable {α:Type} {f:α->List Value} {sz:Nat}
theorem Ox.shrink{e:TypeId}{lo hi:Nat}{w:World}{a:Option Addr}{n cap:Nat}{l:List α}(h:Ox f sz e lo hi w (.slice a n cap) l)(hs:∀x∈l,(f x).length=sz)(i:Nat)(hi2:i<=n):Ox f sz e lo hi w (.slice a i cap) (l.take i):=by
 obtain⟨a0,c0,hv⟩:=h.1.form
 simp only[Value.slice.injEq] at hv
 obtain⟨_,rfl,_⟩:=hv
 have hl:(l.take i).length=i:=by simp;omega
 refine⟨?_,fun b hb=>h.2 b (by cases a with|none=>simp[Value.ownBlock] at hb|some a=>simpa [Value.ownBlock] using hb)⟩
 unfold Ow;rw[hl,<-flat_take hs]
 refine⟨by rw[List.length_take,flat_length hs];have:=Nat.mul_le_mul_right sz hi2;omega,?_⟩
 rcases h.1.2 with⟨hv,h0⟩|⟨g,cap',cur,hv,hg,hw,hn,hcap,hcs,ht⟩
 ·simp only[Value.slice.injEq] at hv
  obtain⟨rfl,_,rfl⟩:=hv
  obtain rfl:i=0:=by omega
  exact .inl ⟨rfl,rfl⟩
 simp only[Value.slice.injEq] at hv
 obtain⟨rfl,_,rfl⟩:=hv
 refine .inr ⟨g,cap,cur,rfl,hg,hw,by omega,hcap,hcs,?_⟩;rw[<-ht,List.take_take]
 congr 1
 have:=Nat.mul_le_mul_right sz hi2
 omega
theorem Ox.past{e:TypeId}{lo hi:Nat}{w:World}{g n cap:Nat}{l:List α}(h:Ox f sz e lo hi w (.slice (some ⟨g,0,none⟩) n cap) l)(vs:List Value)(o:Nat)(ho:n*sz<=o):Ox f sz e lo hi (w.setCells g o vs) (.slice (some ⟨g,0,none⟩) n cap) l:=by
 obtain⟨a0,c0,hv⟩:=h.1.form
 simp only[Value.slice.injEq] at hv
 obtain⟨_,rfl,_⟩:=hv
 refine⟨?_,fun b hb=>h.2 b (by simpa [Value.ownBlock] using hb)⟩
 have h1:=h.1;unfold Ow at h1 ⊢
 exact owns_past (w:=w) vs o w h1 ho
theorem Ox.there{e:TypeId}{lo hi:Nat}{w:World}{g n cap:Nat}{l:List α}(h:Ox f sz e lo hi w (.slice (some ⟨g,0,none⟩) n cap) l)(hs:∀x∈l,(f x).length=sz)(o c:Nat)(hc:o+c<=n*sz):w.there g o c:=fun j hj=>by
 obtain⟨a0,c0,hv⟩:=h.1.form
 simp only[Value.slice.injEq] at hv
 obtain⟨_,rfl,_⟩:=hv
 have hlt:o+j<l.length*sz:=by omega
 refine⟨?_,World.ownsRow.frozenAt h.1 _⟩
 rw[World.ownsRow.cellAt h.1 _ hlt,List.getElem?_eq_getElem (by rw[flat_length hs];exact hlt)]
 rfl
theorem Ox.range{e:TypeId}{lo hi:Nat}{w:World}{g n cap:Nat}{l:List α}(h:Ox f sz e lo hi w (.slice (some ⟨g,0,none⟩) n cap) l)(hs:∀x∈l,(f x).length=sz){i:Nat}{x:α}(hx:l[i]? =some x):w.rangeAt g (i*sz) (f x):=fun j u hu=>(h.at hs hx hu _ rfl).1
end
theorem grown_onl{w W:World}{g:Nat}(h:Onl [g] w W):w.grownBy W (some g):=⟨h.os,h.tape,h.output,h.size,fun k hk hne=>h.block k hk (by simp;rintro rfl;exact hne rfl)⟩
theorem grown_below{w W:World}{r:Option Nat}(h:Below w.heap.size w W):w.grownBy W r:=⟨h.os,h.tape,h.output,h.size,fun k hk _=>h.block k hk⟩
theorem grown_trans{a b c:World}{r:Option Nat}(h:a.grownBy b r)(k:b.grownBy c r):a.grownBy c r:=⟨k.os.trans h.os,k.tape.trans h.tape,k.output.trans h.output,Nat.le_trans h.size k.size,fun i hi hn=>(k.block i (Nat.lt_of_lt_of_le hi h.size) hn).trans (h.block i hi hn)⟩
theorem Bx.grown{w W:World}{r:Option Nat}{P:Nat}{s:Bs}{B:Bd}(h:Bx w P s B)(hg:w.grownBy W r)(hn:r≠some P):Bx W P s B:=(hg.block P h.lt (fun e=>hn e.symm)).trans h
theorem Ro.grown{w W:World}{r:Option Nat}{P:Nat}{C:Array Value}{t:TypeId}(h:Ro w P C t)(hg:w.grownBy W r)(hn:r≠some P):Ro W P C t:=(hg.block P h.lt (fun e=>hn e.symm)).trans h
theorem filter_first{α:Type}{p:α->Bool}{l:List α}{k:Nat}{x:α}(hx:l[k]? =some x)(hp:p x=true)(hn:∀j y,j<k->l[j]? =some y->p y=false):(l.take (k+1)).filter (fun y=> !p y)=l.take k:=by
 rw[List.take_add_one,hx,List.filter_append]
 have h1:(l.take k).filter (fun y=> !p y)=l.take k:=List.filter_eq_self.2 (fun y hy=>by
  obtain⟨j,hj⟩:=List.getElem?_of_mem hy
  have hjk:j<k:=by have:=(List.getElem?_eq_some_iff.1 hj).1;simp at this;omega
  rw[List.getElem?_take_of_lt hjk] at hj
  simp[hn j y hjk hj])
 rw[h1];simp[hp]
theorem filter_next{α:Type}{p:α->Bool}{l:List α}{k:Nat}{x:α}(hx:l[k]? =some x):(l.take (k+1)).filter (fun y=> !p y)=(l.take k).filter (fun y=> !p y)++if p x then [] else [x]:=by
 rw[List.take_add_one,hx,List.filter_append]
 congr 1
 cases h:p x<;>simp[h]
theorem filter_none{α:Type}{p:α->Bool}{l:List α}(h:∀x∈l,p x=false):l.filter (fun y=> !p y)=l:=List.filter_eq_self.2 (fun y hy=>by simp[h y hy])
def FiA{α:Type}(p:α->Bool)(l:List α)(w:World)(e:Ending)(w':World):Prop:=(∃r:Int,e= .returned (.int .i64 r)/\((r= -1/\∀x∈l,p x=false)\/∃(k:Nat) (x:α),r=k/\l[k]? =some x/\p x=true/\∀j y,j<k->l[j]? =some y->p y=false))/\Below w.heap.size w w'
def FiL{α:Type}(p:α->Bool)(l:List α)(w:World)(i:Value)(wr:World):Prop:=∃k:Nat,k<=l.length/\i= .int .i64 k/\(∀j y,j<k->l[j]? =some y->p y=false)/\Below w.heap.size w wr
def DfL{α:Type}(f:α->List Value)(sz:Nat)(e:TypeId)(lo hi:Nat)(p:α->Bool)(l:List α)(g cap:Nat)(w:World)(i j:Value)(wr:World):Prop:=∃(k q:Nat) (m:List α),k<q/\q<=l.length/\i= .int .i64 k/\j= .int .i64 q/\m.length=l.length/\m.take k=(l.take q).filter (fun y=> !p y)/\(∀r,q<=r->m[r]? =l[r]?)/\Ox f sz e lo hi wr (.slice (some ⟨g,0,none⟩) l.length cap) m/\Onl [g] w wr
end Go.Proofs.YtpbepnpnpopmfaaGreat
namespace Go.Proofs.YtpbepnpnpopmfaaGreat
open Plain
set_option linter.unusedVariables false
set_option linter.unusedSimpArgs false

theorem idxX(q:Nat)(hcf:∀args w,(callFunc q args).run Tryz.prog w= .ok (.enter q args) w)(cv:Value)(p:(It×Sl)->Bool)(v:Value)(l:List (It×Sl))(w:World)(hs:Rw itc 5 w v l)(hq:∀W x,x∈l->Below w.heap.size w W->Calls Tryz.prog q #[.agg #[.int .i64 x.1.pl,.int .i64 x.1.id,.int .i64 x.1.cd,.int .i64 x.1.tr,.slice x.2.a x.2.n x.2.c],cv] W fun e w' =>e= .returned (.bool (p x))/\Below W.heap.size W w'):Calls Tryz.prog 80 #[v,.func (.func q) #[] #[cv]] w (FiA p l w):=by
 obtain⟨hm,a0,c0,rfl,hf⟩:=hs.form
 have HF:=Hd hf;have HQ:=Hd hq;clear hs hf hq;go_enter Tryz.func80,Tryz.ntmps80;go_wp2_with fail
 go_loopw [8] (fun i wr=>FiL p l w i wr) (fun i _=>l.length-(intOf i).toNat)
 case atStart=>exact⟨0,Nat.zero_le _,rfl,fun j y h=>by omega,Below.refl _ _⟩
 obtain⟨k,hk,rfl,hn,hb⟩:=hrel
 have HN:=Hd hn;clear hn
 by_cases hlt2:k<l.length
 ·obtain⟨b,off,rfl,hlt,hc⟩:=HF.o (by omega)
  obtain⟨x,hx⟩:∃x,l[k]? =some x:=⟨_,List.getElem?_eq_getElem hlt2⟩
  have HX:=Hd hx;have d0:wr.cell? ⟨b,off+k*5,none⟩=some (.int .i64 x.1.pl):=(hb.cell (p:=⟨b,off+k*5,none⟩) hlt).trans (hc k x HX.o 0 _ rfl);have d1:wr.cell? ⟨b,off+k*5+1,none⟩=some (.int .i64 x.1.id):=(hb.cell (p:=⟨b,off+k*5+1,none⟩) hlt).trans ((Nat.add_assoc off (k*5) 1).symm▸hc k x HX.o 1 _ rfl);have d2:wr.cell? ⟨b,off+k*5+2,none⟩=some (.int .i64 x.1.cd):=(hb.cell (p:=⟨b,off+k*5+2,none⟩) hlt).trans ((Nat.add_assoc off (k*5) 2).symm▸hc k x HX.o 2 _ rfl);have d3:wr.cell? ⟨b,off+k*5+3,none⟩=some (.int .i64 x.1.tr):=(hb.cell (p:=⟨b,off+k*5+3,none⟩) hlt).trans ((Nat.add_assoc off (k*5) 3).symm▸hc k x HX.o 3 _ rfl);have d4:wr.cell? ⟨b,off+k*5+4,none⟩=some (.slice x.2.a x.2.n x.2.c):=(hb.cell (p:=⟨b,off+k*5+4,none⟩) hlt).trans ((Nat.add_assoc off (k*5) 4).symm▸hc k x HX.o 4 _ rfl);have i1:(0:Int)<=(k:Int):=by omega
  have i2:(k:Int)<(l.length:Int):=by omega
  have HBW:=Hd hb;have HC:=Hd (HQ.o wr x (List.mem_of_getElem? hx) hb)
  obtain⟨r,hr⟩:∃r,p x=r:=⟨_,rfl⟩
  rw[hr] at HC
  have HP:=Hd hr;clear hc hx hr hb hlt
  cases r
  ·go_wp2_with fail
   with_reducible refine HC.o.mono ?_
   rintro e w2 ⟨rfl,hb2⟩;have HB2:=Hd (below_via HBW.o hb2);clear hb2;go_wp2_with fail
   go_roundw
   case rel=>exact⟨k+1,by omega,by go_num,fun j y hj hy=>by
    rcases Nat.lt_or_ge j k with h|h
    ·exact HN.o j y h hy
    obtain rfl:j=k:=by omega
    have:=HX.o
    rw[hy] at this
    rw[Option.some.inj this];exact HP.o,HB2.o⟩
   case measure=>simp[intOf];omega
  go_wp2_with fail
  with_reducible refine HC.o.mono ?_
  rintro e w2 ⟨rfl,hb2⟩;have HB2:=Hd (below_via HBW.o hb2);clear hb2;go_wp2_with fail
  go_returns
  exact⟨⟨k,rfl,.inr ⟨k,x,rfl,HX.o,HP.o,HN.o⟩⟩,HB2.o⟩
 obtain rfl:k=l.length:=by omega
 have HBW:=Hd hb;clear hb;go_wp2_with fail
 go_returns
 exact⟨⟨-1,rfl,.inl ⟨rfl,fun x hx=>by
  obtain⟨j,hj⟩:=List.getElem?_of_mem hx
  exact HN.o j x (List.getElem?_eq_some_iff.1 hj).1 hj⟩⟩,HBW.o⟩
theorem zvX(w:World):(zeroValue 73).run Tryz.prog w= .ok (.agg #[.int .i64 0,.int .i64 0,.int .i64 0,.int .i64 0,.slice none 0 0]) w:=by kernel_rfl
theorem delX(q:Nat)(hcf:∀args w,(callFunc q args).run Tryz.prog w= .ok (.enter q args) w)(cv:Value)(p:(It×Sl)->Bool)(a:Option Addr)(cap:Nat)(l:List (It×Sl))(lo hi:Nat)(w:World)(h:Ox itc 5 73 lo hi w (.slice a l.length cap) l)(hl:l.length<=1000)(hq:∀W x,x∈l->w.grownBy W (Value.slice a l.length cap).ownBlock->Calls Tryz.prog q #[.agg #[.int .i64 x.1.pl,.int .i64 x.1.id,.int .i64 x.1.cd,.int .i64 x.1.tr,.slice x.2.a x.2.n x.2.c],cv] W fun e w' =>e= .returned (.bool (p x))/\Below W.heap.size W w'):
  Calls Tryz.prog 107 #[.slice a l.length cap,.func (.func q) #[] #[cv]] w fun e w' =>e= .returned (.slice a (l.filter (fun y=> !p y)).length cap)/\Ox itc 5 73 lo hi w' (.slice a (l.filter (fun y=> !p y)).length cap) (l.filter (fun y=> !p y))/\w.grownBy w' (Value.slice a l.length cap).ownBlock:=by
 have hlen:∀(l:List (It×Sl)),∀x∈l,(itc x).length=5:=fun l x _=>(itc_ok x).1
 have HLEN:=Hd hlen;have HI:=Hd (idxX q hcf cv p (.slice a l.length cap) l w (h.rw (hlen l)) (fun W x hx hb=>hq W x hx (grown_below hb)));have HO:=Hd h;have HQ:=Hd hq;clear h hq hlen;go_enter Tryz.func107,Tryz.ntmps107;go_wp2_with fail
 with_reducible refine HI.o.mono ?_
 rintro e w1 ⟨⟨r,rfl,hr⟩,hb⟩;rcases hr with⟨rfl,hn⟩|⟨k0,x0,rfl,hx0,hp0,hn0⟩
 ·have HN:=Hd (filter_none hn)
  have HB:=Hd hb;clear hn hb;go_wp2_with fail
  go_returns;rw[HN.o]
  exact⟨rfl,HO.o.below HB.o,grown_below HB.o⟩
 have hk0:k0<l.length:=(List.getElem?_eq_some_iff.1 hx0).1;have t0:((k0:Int)== -1)=false:=by simp
 obtain⟨g,cap',hv,hg1,hg2,hg3⟩:=HO.o.pos (by omega)
 simp only[Value.slice.injEq] at hv
 obtain⟨rfl,hq0,rfl⟩:=hv
 have HST:Hid (DfL itc 5 73 lo hi p l g cap w (.int .i64 k0) (.int .i64 (k0+1:Nat)) w1):=Hd ⟨k0,k0+1,l,by omega,by omega,rfl,rfl,rfl,(filter_first hx0 hp0 hn0).symm,fun _ _=>rfl,HO.o.below hb,Onl.of hb⟩;have HG:=Hd (And.intro hg1 hg2);clear hq0 hx0 hp0 hn0 hb hg1 hg2 hg3;go_wp2_with fail
 clear t0
 go_loopw [5,6] (fun i j wr=>DfL itc 5 73 lo hi p l g cap w i j wr) (fun _ j _=>l.length-(intOf j).toNat)
 case atStart=>exact HST.o
 obtain⟨k,q',m,hkq,hql,rfl,rfl,hml,hmt,hmu,ho,hon⟩:=hrel
 have HML:=Hd hml;have HMT:=Hd hmt;have HMU:=Hd hmu;have HOR:=Hd ho;have HON:=Hd hon;clear hml hmt hmu ho hon
 by_cases hql2:q'<l.length
 case neg=>
  obtain rfl:q' =l.length:=by omega
  have t1:decide ((l.length:Int)<(l.length:Int))=false:=decide_eq_false (by omega);have t1':decide (l.length<l.length)=false:=decide_eq_false (by omega)
  obtain⟨ZS,hZS⟩:∃ZS,ZS=(if l.length-k=0 then [] else (Builtin.zeroCells (.agg #[.int .i64 0,.int .i64 0,.int .i64 0,.int .i64 0,.slice none 0 0]:Value).cells (l.length-k)).toList):=⟨_,rfl⟩
  have hcl:∀ty,(Builtin.clear_ #[30] ty #[.slice (some ⟨g,k*5,none⟩) (l.length-k) (cap-k)]).run Tryz.prog wr= .ok (.tuple #[]) (wr.setCells g (k*5) ZS):=fun ty=>by
   rw[hZS];have hth:wr.there g (k*5) ((l.length-k)*5):=HOR.o.there (HLEN.o m) _ _ (by rw[<-Nat.add_mul];exact Nat.mul_le_mul_right _ (by omega));exact run_clear_n wr 30 73 ty _ Tryz.underlying30 zvX (by simp[Value.cells,Value.oneCell']) g _ _ _ (fun j hj=>(hth j hj).1) (fun j hj=>(hth j hj).2)
  clear hZS;have i1:(0:Int)<=(k:Int):=by omega
  have i2:(k:Int)<=(l.length:Int):=by omega
  have i3:k<=l.length:=by omega
  have HCP:Hid (l.length<=cap):=Hd (by
   obtain⟨_,h1⟩:=HOR.o.1
   rcases h1 with⟨h1,_⟩|⟨g',c',cur,h1,_,_,h2,_⟩
   ·cases h1
   simp only[Value.slice.injEq] at h1
   rw[h1.2.2,<-HML.o];exact h2)
  have i4:k<=cap:=by have:=HCP.o;omega
  have i5:(k:Int)<=(cap:Int):=by omega
  have i6:l.length<=cap:=HCP.o;have i7:(l.length:Int)<=(cap:Int):=by omega
  go_wp2_with fail
  go_returns
  have hfl:(l.filter (fun y=> !p y)).length=k:=by
   have h1:=congrArg List.length HMT.o;rw[List.take_length,List.length_take] at h1
   rw[<-h1]
   have:=HML.o
   omega
  have hO:=(HOR.o.shrink (HLEN.o m) k i3).past ZS (k*5) (Nat.le_refl _);rw[HMT.o,List.take_length] at hO
  rw[hfl]
  exact⟨rfl,hO,grown_onl (HON.o.trans (Onl.setCells ZS _ _ (Onl.refl _ _) (.inl (by simp))))⟩
 case pos=>
 have t1:decide ((q':Int)<(l.length:Int))=true:=decide_eq_true (by omega);have t1':decide (q'<l.length)=true:=decide_eq_true hql2
 obtain⟨x,hx⟩:∃x,m[q']? =some x:=⟨_,List.getElem?_eq_getElem (by have:=HML.o;omega)⟩
 have hxl:l[q']? =some x:=by rw[<-HMU.o q' (Nat.le_refl _)];exact hx
 have HRG:=Hd (HOR.o.range (HLEN.o m) hx);have HXL:=Hd hxl;have i1:(0:Int)<=(q':Int):=by omega
 have i2:(q':Int)<(l.length:Int):=by omega
 have HGL:Hid (g<wr.heap.size):=Hd (HOR.o.blk rfl).2.2;clear hx hxl;go_wp2_with (first|(refine wpList_load_mid rfl 73 _ rfl g (q'*5) rfl (itc x) _ HRG.o Tryz.underlying73 rfl rfl ?_)|(refine wpList_store_rh rfl 73 (itc x).toArray _ _ rfl rfl rfl (Ro.new _ _ _) rfl rfl (arr_one (itc_ok x).2) ?_))
 intro w3 hw3;have hbx:=boxed_r hw3.out
 obtain⟨T,hT⟩:∃n,n=wr.heap.size:=⟨_,rfl⟩
 rw[<-hT] at hbx ⊢
 have HT:=Hd hbx.2;have HTG:Hid (T≠g):=Hd (by have:=HGL.o;omega);have hb3:=hbx.1;rw[hT] at hb3
 replace HOR:=Hd (HOR.o.below hb3);replace HON:=Hd (HON.o.grow hb3);have HC:Hid (Calls Tryz.prog q #[.agg (itc x).toArray,cv] w3 fun e w' =>e= .returned (.bool (p x))/\Below w3.heap.size w3 w'):=Hd (HQ.o w3 x (List.mem_of_getElem? HXL.o) (grown_onl HON.o));clear hw3 hbx hT hb3 HRG HGL i1 i2 t1 t1'
 obtain⟨r,hr⟩:∃r,p x=r:=⟨_,rfl⟩
 rw[hr] at HC
 have HP:=Hd hr;clear hr;go_wp2_with (refine wpList_load_ro rfl 73 (itc x).toArray _ rfl rfl HT.o Tryz.underlying73 rfl rfl ?_)
 with_reducible refine HC.o.mono ?_
 rintro e w4 ⟨rfl,hb⟩;replace HOR:=Hd (HOR.o.below hb);replace HON:=Hd (HON.o.grow hb);replace HT:=Hd (HT.o.below hb);clear hb HC
 cases r
 case true=>
  go_wp2_with fail
  go_roundw
  case rel=>exact⟨k,q'+1,m,by omega,by omega,rfl,by go_num,HML.o,by rw[filter_next HXL.o,HP.o,HMT.o];simp,fun r hr=>HMU.o r (by omega),HOR.o,HON.o⟩
  case measure=>simp[intOf];omega
 case false=>
  have i1:(0:Int)<=(k:Int):=by omega
  have i2:(k:Int)<(l.length:Int):=by omega
  have HTH:Hid (w4.there g (k*5) 5):=Hd (HOR.o.there (HLEN.o m) _ _ (by rw[<-Nat.succ_mul];exact Nat.mul_le_mul_right _ (by omega)));go_wp2_with (first|(refine wpList_load_ro rfl 73 (itc x).toArray _ rfl rfl HT.o Tryz.underlying73 rfl rfl ?_)|(refine wpList_store_mh rfl 73 _ _ rfl g (k*5) (itc x).toArray rfl rfl HTH.o rfl (arr_one (itc_ok x).2) ?_))
  intro w5 hw5;have HOR5:Hid (Ox itc 5 73 lo hi w5 (.slice (some ⟨g,0,none⟩) l.length cap) (m.set k x)):=Hd (by rw[hw5.out];exact HOR.o.setn (fun x=>(itc_ok x).1) x (by have:=HML.o;omega) _ rfl _ rfl);have HON5:Hid (Onl [g] w w5):=Hd (HON.o.trans (by rw[hw5.out];exact Onl.setCells _ _ _ (Onl.refl _ _) (.inl (by simp))));clear hw5 i1 i2;go_wp2_with fail
  go_roundw
  case rel=>
   refine⟨k+1,q'+1,m.set k x,by omega,by omega,by go_num,by go_num,by rw[List.length_set];exact HML.o,?_,fun r hr=> ?_,HOR5.o,HON5.o⟩
   ·rw[filter_next HXL.o,HP.o,<-HMT.o,List.take_add_one,List.getElem?_set_self (by have:=HML.o;omega),List.take_set_of_le (Nat.le_refl k)]
    rfl
   rw[List.getElem?_set,if_neg (by omega)];exact HMU.o r (by omega)
  case measure=>simp[intOf];omega
end Go.Proofs.YtpbepnpnpopmfaaGreat
