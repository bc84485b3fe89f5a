/- Functions that return a board. Rows that are written as a whole. Values of some cells in boxes; rows that shrink and are cleared. -/
import Derived.Test.YtpbepnpnpopmfaaBCc
import Derived.Test.YtpbepnpnpopmfaaBOw
import Derived.Test.YtpbepnpnpopmfaaBB
import Derived.Deep.DeepCutAuto
import Derived.LoopTactic
import Derived.Deep.MidRow
import Derived.Test.YtpbepnpnpopmfaaBVd
import Derived.Test.YtpbepnpnpopmfaaTFi
import Derived.Test.YtpbepnpnpopmfaaBSm
import Derived.Lib.SliceRun
namespace Go.Proofs.Ytpbepnpnpopmfaa
open Go.RowKit Plain
set_option linter.unusedVariables false
set_option linter.unusedSimpArgs false

/-- the whole board is written; the new world has a name -/
theorem wpList_store_bh{ops:Array Oper}{rest:List Oper}{op:Oper}{a:Act}{w:World}{Q:Exit→Act→World→Prop}(hgd:op.guard=none){P:Nat}{s:Bs}{B:Bd}(x y:Operand)(ho:op.op= .store 34 x y)(hx:a.eval x= .pointer (some ⟨P,0,none⟩))(hy:a.eval y=bv s B){old:Array Value}(hg:w.heap[P]? =some (.cells old 34 (0,0)))(hsz:old.size=38)
  (hK:∀w',Hid (w' =w.setRow P (bcells s B))→wpList Try.prog ops Q rest (a.put op.dst undef) w'):wpList Try.prog ops Q (op::rest) a w:=
 wpList_store_bx hgd x y ho hx hy hg hsz (fun w' h=>hK w' (Lib.hid h))
theorem zeroOwn(lo hi:Nat)(w:World):BdO lo hi w nilS zeroB:=by
 have n:∀j,j<9→nilS.isl j=nilSl∧zeroB.il j=[]:=fun j hj=>match j,hj with
  |0,_=>⟨rfl,rfl⟩
  |1,_=>⟨rfl,rfl⟩
  |2,_=>⟨rfl,rfl⟩
  |3,_=>⟨rfl,rfl⟩
  |4,_=>⟨rfl,rfl⟩
  |5,_=>⟨rfl,rfl⟩
  |6,_=>⟨rfl,rfl⟩
  |7,_=>⟨rfl,rfl⟩
  |8,_=>⟨rfl,rfl⟩
 exact⟨Ox.nil _ _ _ _,fun j hj=>by rw[(n j hj).1,(n j hj).2];exact Ox.nil _ _ _ _,fun i j hi2 _ _ b hb=>by rw[(n i hi2).1] at hb;simp[nilSl,Sl.v,Value.ownBlock] at hb,ItO.nil _ _ _,ItO.nil _ _ _,fun b hb=>by simp[nilS,nilSl,Sl.v,Value.ownBlock] at hb,Ox.nil _ _ _ _⟩
def BrA(w:World)(B:Bd)(y:Value)(e:Ending)(w':World):Prop:=∃s',e= .returned (.tuple #[bv s' B,y])∧BdO w.heap.size w'.heap.size w' s' B∧Below w.heap.size w w'
def BrP(w:World)(B:Bd)(y z:Value)(e:Ending)(w':World):Prop:=∃s',e= .returned (.tuple #[bv s' B,y,z])∧BdO w.heap.size w'.heap.size w' s' B∧Below w.heap.size w w'
theorem results_b0{fn:Func}{p:Tmp}(h:fn.results= #[.cell p 34])(tmps:Array Value)(w:World){P:Nat}{s:Bs}{B:Bd}(hx:Bx w P s B)(hp:tmps.getD p undef= .pointer (some ⟨P,0,none⟩)):(results fn tmps).run Try.prog w= .ok (bv s B) w:=
 results_cell_row h tmps w P 34 _ (0,0) _ hp hx Try.underlying34 rfl (by kernel_rfl)
theorem results_b1{fn:Func}{p u:Tmp}(h:fn.results= #[.cell p 34,.tmp u])(tmps:Array Value)(w:World){P:Nat}{s:Bs}{B:Bd}{y:Value}(hx:Bx w P s B)(hp:tmps.getD p undef= .pointer (some ⟨P,0,none⟩))(hy:tmps.getD u undef=y):(results fn tmps).run Try.prog w= .ok (.tuple #[bv s B,y]) w:=by
 have hl:(loadVar 34 ⟨P,0,none⟩).run Try.prog w= .ok (bv s B) w:=run_loadVar_row w P 34 34 _ (0,0) _ hx Try.underlying34 rfl (by kernel_rfl);rw[results_cell_tmp h,hp,hy];simp[asAddr,hl]
theorem results_b2{fn:Func}{p u v:Tmp}(h:fn.results= #[.cell p 34,.tmp u,.tmp v])(tmps:Array Value)(w:World){P:Nat}{s:Bs}{B:Bd}{y z:Value}(hx:Bx w P s B)(hp:tmps.getD p undef= .pointer (some ⟨P,0,none⟩))(hy:tmps.getD u undef=y)(hz:tmps.getD v undef=z):(results fn tmps).run Try.prog w= .ok (.tuple #[bv s B,y,z]) w:=by
 have hl:(loadVar 34 ⟨P,0,none⟩).run Try.prog w= .ok (bv s B) w:=run_loadVar_row w P 34 34 _ (0,0) _ hx Try.underlying34 rfl (by kernel_rfl);have hp':tmps[p]?.getD undef= .pointer (some ⟨P,0,none⟩):=by simpa using hp
 have hy':tmps[u]?.getD undef=y:=by simpa using hy
 have hz':tmps[v]?.getD undef=z:=by simpa using hz
 simp only[results,h];simp[Sem.run_bind,Result.andThen,asAddr,hl,hp',hy',hz']
theorem boxed{W W':World}{old:Array Value}{s:Bs}{B:Bd}(h:W' =(W.alloc (.cells old 34)).setRow W.heap.size (bcells s B)):Below W.heap.size W W'∧Bx W' W.heap.size s B:=by
 have b1:Below W.heap.size W (W.alloc (.cells old 34)):=(Below.refl _ _).alloc (Nat.le_refl _) _
 exact⟨belowOnl b1 (by rw[h];exact Onl.setRow (Onl.refl _ _) (.inl (by simp)) _:Onl [W.heap.size] _ W') (by simp) b1.size,by rw[h];exact Bx.row (heap_alloc_new _ _) s B⟩
end Go.Proofs.Ytpbepnpnpopmfaa
namespace Go.Proofs.Ytpbepnpnpopmfaa
open Go.RowKit Plain
set_option linter.unusedVariables false
set_option linter.unusedSimpArgs false

theorem Ro.onl{w w':World}{P:Nat}{C:Array Value}{t:TypeId}{S:List Nat}(h:Ro w P C t)(ho:Onl S w w')(hS:P∉S):Ro w' P C t:=(ho.block P h.lt hS).trans h
/-- a whole row is written -/
theorem wpList_store_ro{P:Program}{ops:Array Oper}{rest:List Oper}{op:Oper}{a:Act}{w:World}{Q:Exit→Act→World→Prop}(T:TypeId)(hgd:op.guard=none){b:Nat}{C old:Array Value}(x y:Operand)(ho:op.op= .store T x y)(hx:a.eval x= .pointer (some ⟨b,0,none⟩))(hy:a.eval y= .agg C)(hg:Ro w b old T)(hi:(P.info? T).map (·.size)=some C.size)(hsz:old.size=C.size)(h1:C.all (·.oneCell')=true)
  (hK:wpList P ops Q rest (a.put op.dst undef) (w.setRow b C)):wpList P ops Q (op::rest) a w:=
 wpList_store_row hgd T x y ho b C hx hy T old hg hi hsz h1 hK
end Go.Proofs.Ytpbepnpnpopmfaa
namespace Go.Proofs.Ytpbepnpnpopmfaa
open Go.RowKit Plain
set_option linter.unusedVariables false
set_option linter.unusedSimpArgs false

theorem wpList_load_ro{ops:Array Oper}{rest:List Oper}{op:Oper}{a:Act}{w:World}{Q:Exit→Act→World→Prop}(hgd:op.guard=none){P:Nat}(T:TypeId)(C:Array Value)(x:Operand)(ho:op.op= .load T x)(hx:a.eval x= .pointer (some ⟨P,0,none⟩))(h:Ro w P C T){d:TypeDesc}(hu:Try.prog.underlying T=some d)(hd:d.isRow=true)(hi:(Try.prog.info? T).map (·.size)=some C.size)
  (hK:wpList Try.prog ops Q rest (a.put op.dst (.agg C)) w):wpList Try.prog ops Q (op::rest) a w:=
 wpList_load_mid hgd T x ho P 0 hx C.toList d (fun j u hu=>by rw[Nat.zero_add,h.cell j];simpa using hu) hu hd (by simpa using hi) (by simpa using hK)
theorem wpList_store_rh{ops:Array Oper}{rest:List Oper}{op:Oper}{a:Act}{w:World}{Q:Exit→Act→World→Prop}(hgd:op.guard=none){P:Nat}(T:TypeId)(C:Array Value)(x y:Operand)(ho:op.op= .store T x y)(hx:a.eval x= .pointer (some ⟨P,0,none⟩))(hy:a.eval y= .agg C){old:Array Value}(hg:Ro w P old T)(hi:(Try.prog.info? T).map (·.size)=some C.size)(hsz:old.size=C.size)(h1:C.all (·.oneCell')=true)
  (hK:∀w',Hid (w' =w.setRow P C)→wpList Try.prog ops Q rest (a.put op.dst undef) w'):wpList Try.prog ops Q (op::rest) a w:=
 wpList_store_ro T hgd x y ho hx hy hg hi hsz h1 (hK _ (Lib.hid rfl))
theorem boxed_r{W W':World}{old C:Array Value}{T:TypeId}(h:W' =(W.alloc (.cells old T)).setRow W.heap.size C):Below W.heap.size W W'∧Ro W' W.heap.size C T:=by
 have b1:Below W.heap.size W (W.alloc (.cells old T)):=(Below.refl _ _).alloc (Nat.le_refl _) _
 exact⟨belowOnl b1 (by rw[h];exact Onl.setRow (Onl.refl _ _) (.inl (by simp)) _:Onl [W.heap.size] _ W') (by simp) b1.size,by rw[h];exact setRow_heap _ _ _ _ T _ (heap_alloc_new _ _)⟩
theorem wpList_store_mh{ops:Array Oper}{rest:List Oper}{op:Oper}{a:Act}{w:World}{Q:Exit→Act→World→Prop}(hgd:op.guard=none)(T:TypeId)(x y:Operand)(ho:op.op= .store T x y)(b o:Nat)(C:Array Value)(hx:a.eval x= .pointer (some ⟨b,o,none⟩))(hy:a.eval y= .agg C)(ht:w.there b o C.size)(hi:(Try.prog.info? T).map (·.size)=some C.size)(h1:C.all (·.oneCell')=true)
  (hK:∀w',Hid (w' =w.setCells b o C.toList)→wpList Try.prog ops Q rest (a.put op.dst undef) w'):wpList Try.prog ops Q (op::rest) a w:=
 wpList_store_mid hgd T x y ho b o C hx hy ht hi h1 (hK _ (Lib.hid rfl))
theorem arr_one{cs:List Value}(h:∀u∈cs,u.oneCell' =true):cs.toArray.all (·.oneCell')=true:=all_oneCell_toArray h
/-- clear(s), elements of any size -/
theorem run_clear_n{P:Program}(w:World)(t e ty:TypeId)(z:Value)(ht:P.underlying t=some (.slice e))(hv:∀w,(zeroValue e).run P w= .ok z w)(h1:∀u∈z.cells.toList,u.oneCell' =true)(b o n c:Nat)
  (hc:∀j,j<n*z.cells.size→(w.cell? ⟨b,o+j,none⟩).isSome=true) (hf:∀j,j<n*z.cells.size→w.frozen? ⟨b,o+j,none⟩=false):
  (Builtin.clear_ #[t] ty #[.slice (some ⟨b,o,none⟩) n c]).run P w= .ok (.tuple #[]) (w.setCells b o (if n=0 then [] else (Builtin.zeroCells z.cells n).toList)):=by
 cases n with
 |zero=>simp[Builtin.clear_,run_underlying ht,World.setCells]
 |succ m=>
  have hl:(Builtin.zeroCells z.cells (m+1)).toList.length=(m+1)*z.cells.size:=by simp[Builtin.zeroCells]
  have hst:=run_storeCells_cells (P:=P) b o (Builtin.zeroCells z.cells (m+1)).toList 0 w (by rw[hl];simpa using hc) (by rw[hl];simpa using hf) (by
   intro u hu;rw[Array.mem_toList_iff] at hu
   unfold Builtin.zeroCells at hu
   obtain⟨i,hi,rfl⟩:=Array.mem_map.1 hu
   have hpos:0<z.cells.size:=by
    rcases Nat.eq_zero_or_pos z.cells.size with h0|h0
    ·rw[h0] at hi;simp at hi
    ·exact h0
   have h3:i%z.cells.size<z.cells.size:=Nat.mod_lt _ hpos;rw[getElem!_pos z.cells _ h3];exact h1 _ (by rw[Array.mem_toList_iff];exact Array.getElem_mem h3))
  simp only[Nat.add_zero] at hst
  simp[Builtin.clear_,run_underlying ht,hv,hst]
theorem owns_past{w:World}{base:Nat}{e:TypeId}{size g n cap:Nat}{xs:List Value}:∀(vs:List Value) (o:Nat) (w:World),w.ownsRow base e size (.slice (some ⟨g,0,none⟩) n cap) n xs→n*size≤o→(w.setCells g o vs).ownsRow base e size (.slice (some ⟨g,0,none⟩) n cap) n xs
 |[],_,_,h,_=>h
 |u::vs,o,w,h,hge=>by
  have h1:=(h.stored o u).1;have h2:xs.set o u=xs:=List.set_eq_of_length_le (by rw[h.1];exact hge);rw[h2] at h1
  exact owns_past (w:=w) vs (o+1) _ h1 (by omega)
section
variable {α:Type} {f:α→List Value} {sz:Nat}
theorem Ox.shrink{e:TypeId}{lo hi:Nat}{w:World}{a:Option Addr}{n cap:Nat}{l:List α}(h:Ox f sz e lo hi w (.slice a n cap) l)(hs:∀x∈l,(f x).length=sz)(i:Nat)(hi2:i≤n):Ox f sz e lo hi w (.slice a i cap) (l.take i):=by
 obtain⟨a0,c0,hv⟩:=h.1.form
 simp only[Value.slice.injEq] at hv
 obtain⟨_,rfl,_⟩:=hv
 have hl:(l.take i).length=i:=by simp;omega
 refine⟨?_,fun b hb=>h.2 b (by cases a with|none=>simp[Value.ownBlock] at hb|some a=>simpa [Value.ownBlock] using hb)⟩
 unfold Ow;rw[hl,←flat_take hs]
 refine⟨by rw[List.length_take,flat_length hs];have:=Nat.mul_le_mul_right sz hi2;omega,?_⟩
 rcases h.1.2 with⟨hv,h0⟩|⟨g,cap',cur,hv,hg,hw,hn,hcap,hcs,ht⟩
 ·simp only[Value.slice.injEq] at hv
  obtain⟨rfl,_,rfl⟩:=hv
  obtain rfl:i=0:=by omega
  exact .inl ⟨rfl,rfl⟩
 ·simp only[Value.slice.injEq] at hv
  obtain⟨rfl,_,rfl⟩:=hv
  refine .inr ⟨g,cap,cur,rfl,hg,hw,by omega,hcap,hcs,?_⟩;rw[←ht,List.take_take]
  congr 1
  have:=Nat.mul_le_mul_right sz hi2
  omega
theorem Ox.past{e:TypeId}{lo hi:Nat}{w:World}{g n cap:Nat}{l:List α}(h:Ox f sz e lo hi w (.slice (some ⟨g,0,none⟩) n cap) l)(vs:List Value)(o:Nat)(ho:n*sz≤o):Ox f sz e lo hi (w.setCells g o vs) (.slice (some ⟨g,0,none⟩) n cap) l:=by
 obtain⟨a0,c0,hv⟩:=h.1.form
 simp only[Value.slice.injEq] at hv
 obtain⟨_,rfl,_⟩:=hv
 refine⟨?_,fun b hb=>h.2 b (by simpa [Value.ownBlock] using hb)⟩
 have h1:=h.1;unfold Ow at h1 ⊢
 exact owns_past (w:=w) vs o w h1 ho
theorem Ox.there{e:TypeId}{lo hi:Nat}{w:World}{g n cap:Nat}{l:List α}(h:Ox f sz e lo hi w (.slice (some ⟨g,0,none⟩) n cap) l)(hs:∀x∈l,(f x).length=sz)(o c:Nat)(hc:o+c≤n*sz):w.there g o c:=fun j hj=>by
 obtain⟨a0,c0,hv⟩:=h.1.form
 simp only[Value.slice.injEq] at hv
 obtain⟨_,rfl,_⟩:=hv
 have hlt:o+j<l.length*sz:=by omega
 refine⟨?_,World.ownsRow.frozenAt h.1 _⟩
 rw[World.ownsRow.cellAt h.1 _ hlt,List.getElem?_eq_getElem (by rw[flat_length hs];exact hlt)]
 rfl
theorem Ox.range{e:TypeId}{lo hi:Nat}{w:World}{g n cap:Nat}{l:List α}(h:Ox f sz e lo hi w (.slice (some ⟨g,0,none⟩) n cap) l)(hs:∀x∈l,(f x).length=sz){i:Nat}{x:α}(hx:l[i]? =some x):w.rangeAt g (i*sz) (f x):=fun j u hu=>(h.at hs hx hu _ rfl).1
end
theorem grown_onl{w W:World}{g:Nat}(h:Onl [g] w W):w.grownBy W (some g):=⟨h.os,h.tape,h.output,h.size,fun k hk hne=>h.block k hk (by simp;rintro rfl;exact hne rfl)⟩
theorem grown_below{w W:World}{r:Option Nat}(h:Below w.heap.size w W):w.grownBy W r:=⟨h.os,h.tape,h.output,h.size,fun k hk _=>h.block k hk⟩
theorem grown_trans{a b c:World}{r:Option Nat}(h:a.grownBy b r)(k:b.grownBy c r):a.grownBy c r:=⟨k.os.trans h.os,k.tape.trans h.tape,k.output.trans h.output,Nat.le_trans h.size k.size,fun i hi hn=>(k.block i (Nat.lt_of_lt_of_le hi h.size) hn).trans (h.block i hi hn)⟩
theorem Bx.grown{w W:World}{r:Option Nat}{P:Nat}{s:Bs}{B:Bd}(h:Bx w P s B)(hg:w.grownBy W r)(hn:r≠some P):Bx W P s B:=(hg.block P h.lt (fun e=>hn e.symm)).trans h
theorem Ro.grown{w W:World}{r:Option Nat}{P:Nat}{C:Array Value}{t:TypeId}(h:Ro w P C t)(hg:w.grownBy W r)(hn:r≠some P):Ro W P C t:=(hg.block P h.lt (fun e=>hn e.symm)).trans h
theorem filter_first{α:Type}{p:α→Bool}{l:List α}{k:Nat}{x:α}(hx:l[k]? =some x)(hp:p x=true)(hn:∀j y,j<k→l[j]? =some y→p y=false):(l.take (k+1)).filter (fun y=> !p y)=l.take k:=by
 rw[List.take_add_one,hx,List.filter_append]
 have h1:(l.take k).filter (fun y=> !p y)=l.take k:=List.filter_eq_self.2 (fun y hy=>by
  obtain⟨j,hj⟩:=List.getElem?_of_mem hy
  have hjk:j<k:=by have:=(List.getElem?_eq_some_iff.1 hj).1;simp at this;omega
  rw[List.getElem?_take_of_lt hjk] at hj
  simp[hn j y hjk hj])
 rw[h1];simp[hp]
theorem filter_next{α:Type}{p:α→Bool}{l:List α}{k:Nat}{x:α}(hx:l[k]? =some x):(l.take (k+1)).filter (fun y=> !p y)=(l.take k).filter (fun y=> !p y)++if p x then [] else [x]:=by
 rw[List.take_add_one,hx,List.filter_append]
 congr 1
 cases h:p x<;>simp[h]
theorem filter_none{α:Type}{p:α→Bool}{l:List α}(h:∀x∈l,p x=false):l.filter (fun y=> !p y)=l:=List.filter_eq_self.2 (fun y hy=>by simp[h y hy])
/-- the first that a function finds -/
def FiA{α:Type}(p:α→Bool)(l:List α)(w:World)(e:Ending)(w':World):Prop:=(∃r:Int,e= .returned (.int .i64 r)∧((r= -1∧∀x∈l,p x=false)∨∃(k:Nat) (x:α),r=k∧l[k]? =some x∧p x=true∧∀j y,j<k→l[j]? =some y→p y=false))∧Below w.heap.size w w'
def FiL{α:Type}(p:α→Bool)(l:List α)(w:World)(i:Value)(wr:World):Prop:=∃k:Nat,k≤l.length∧i= .int .i64 k∧(∀j y,j<k→l[j]? =some y→p y=false)∧Below w.heap.size w wr
def DfL{α:Type}(f:α→List Value)(sz:Nat)(e:TypeId)(lo hi:Nat)(p:α→Bool)(l:List α)(g cap:Nat)(w:World)(i j:Value)(wr:World):Prop:=∃(k q:Nat) (m:List α),k<q∧q≤l.length∧i= .int .i64 k∧j= .int .i64 q∧m.length=l.length∧m.take k=(l.take q).filter (fun y=> !p y)∧(∀r,q≤r→m[r]? =l[r]?)∧Ox f sz e lo hi wr (.slice (some ⟨g,0,none⟩) l.length cap) m∧Onl [g] w wr
end Go.Proofs.Ytpbepnpnpopmfaa
