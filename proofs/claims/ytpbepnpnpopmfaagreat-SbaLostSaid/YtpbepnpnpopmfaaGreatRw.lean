/- What a function's own variables hold while its callees make new memory ('Kept'), and regions that draw their order, whose operations read such memory and whose callees only make new memory: walked once, in the order of the text. Of what was there only the blocks of a list have changed ('Onl'). Slices of values of some cells each: 'Rw' (what can be read), 'Ow' (a row of our own), and appending. -/
import Derived.WalkKit
import Derived.Deep.QuietTactic
import Derived.BigQuiet
import Derived.Lib.Hide
import Derived.Handy
import Derived.Laws.Tables
import Derived.Laws.IdiomCopy
import Derived.Laws.AppendOwnNone
import Derived.Maps.AppendAt
import Derived.Laws.OwnMore
import Derived.WideShapes
namespace Go.Proofs.YtpbepnpnpopmfaaGreat
theorem Hd{p:Prop}(h:p):Go.RowKit.Hid p:=h
theorem Go.RowKit.Hid.o{p:Prop}(h:Go.RowKit.Hid p):p:=h
end Go.Proofs.YtpbepnpnpopmfaaGreat
open Go.RowKit Go.Proofs.YtpbepnpnpopmfaaGreat
namespace Go.Proofs.YtpbepnpnpopmfaaGreat

structure Kept(B:Nat)(w:World)(n:Nat)(L:List (Nat×Nat×Value))(W:World):Prop where
 below:Below B w W
 size:n<=W.heap.size
 cells:∀x∈L,x.1<n/\W.cell? ⟨x.1,x.2.1,none⟩=some x.2.2/\W.frozen? ⟨x.1,x.2.1,none⟩=false

theorem Kept.step{B n:Nat}{w W W':World}{L:List (Nat×Nat×Value)}(k:Kept B w n L W)(hB:B<=n)(hb:Below W.heap.size W W'):Kept B w n L W':=
 ⟨k.below.trans (hb.mono (Nat.le_trans hB k.size)),Nat.le_trans k.size hb.size,fun x hx=>by
  obtain⟨h1,h2,h3⟩:=k.cells x hx
  have hlt:x.1<W.heap.size:=Nat.lt_of_lt_of_le h1 k.size
  exact⟨h1,(hb.cell (p:=⟨x.1,x.2.1,none⟩) hlt).trans h2,(hb.frozen (p:=⟨x.1,x.2.1,none⟩) hlt).trans h3⟩⟩

theorem Kept.of{B n:Nat}{w W W':World}{L:List (Nat×Nat×Value)}(hb:Below W.heap.size W W')(h1:Below B w W)(h2:n<=W.heap.size)(hB:B<=n)
  (h3:∀x∈L,x.1<n/\W.cell? ⟨x.1,x.2.1,none⟩=some x.2.2/\W.frozen? ⟨x.1,x.2.1,none⟩=false):Kept B w n L W':=Kept.step ⟨h1,h2,h3⟩ hB hb

theorem Kept.drew{B n:Nat}{w W:World}{L:List (Nat×Nat×Value)}(k:Kept B w n L W):Kept B w n L W.drew:=
 ⟨k.below.drew,k.size,k.cells⟩

theorem Kept.at{B n:Nat}{w W:World}{L:List (Nat×Nat×Value)}(k:Kept B w n L W){b o:Nat}{v:Value}(h:(b,o,v)∈L):W.cell? ⟨b,o,none⟩=some v:=(k.cells _ h).2.1
theorem Kept.free{B n:Nat}{w W:World}{L:List (Nat×Nat×Value)}(k:Kept B w n L W){b o:Nat}{v:Value}(h:(b,o,v)∈L):W.frozen? ⟨b,o,none⟩=false:=(k.cells _ h).2.2

structure KW(B:Nat)(w:World)(n:Nat)(L:List (Nat×Nat×Value)) where
 val:World
 kept:Kept B w n L val

theorem wp_region_kept{P:Program}{id:Nat}{Q:Exit->Act->World->Prop}{a:Act}{w W:World}{B n:Nat}{L:List (Nat×Nat×Value)}{l:List Oper}
  (k:Kept B w n L W) (hm:P.follows .mixedOrders=true) (hB:Region.lexB .any l.toArray=true)
  (h:Nonempty (KW B w n L)->wpQuiet P l.toArray (fun w' =>∃s:KW B w n L,w' =s.val) (fun a' =>∀w',(∃s:KW B w n L,w' =s.val)->Q .normal a' w') l a):(Code.region id l.toArray true).wp P Q a W:=
 wp_region_quiet (C:=fun w' =>∃s:KW B w n L,w' =s.val) hm hB ⟨⟨W.drew,k.drew⟩,rfl⟩ (by simpa using h ⟨⟨W,k⟩⟩)

theorem calls_kept{P:Program}{f:FuncId}{args:Array Value}{w:World}{v:Value}{B n:Nat}{L:List (Nat×Nat×Value)}(hB:B<=n){s:KW B w n L}
  (h:Calls P f args s.val fun e w' =>e= .returned v/\Below s.val.heap.size s.val w'):Calls P f args s.val fun e w'' =>e= .returned v/\∃s':KW B w n L,w'' =s'.val:=
 h.mono fun _ w' ⟨he,hb⟩=>⟨he,⟨w',s.kept.step hB hb⟩,rfl⟩

theorem calls_kept0{P:Program}{f:FuncId}{args:Array Value}{w:World}{v:Value}{B n:Nat}{L:List (Nat×Nat×Value)}{s:KW B w n L}
  (h:Calls P f args s.val fun e w' =>e= .returned v/\s.val=w'):Calls P f args s.val fun e w'' =>e= .returned v/\∃s':KW B w n L,w'' =s'.val:=
 h.mono fun _ _ ⟨he,hb⟩=>⟨he,s,hb.symm⟩

structure KX(B:Nat)(w:World)(n:Nat)(L:List (Nat×Nat×Value))(E:World->Prop) where
 val:World
 kept:Kept B w n L val
 ex:E val

theorem wp_region_keptX{P:Program}{id:Nat}{Q:Exit->Act->World->Prop}{a:Act}{w W:World}{B n:Nat}{L:List (Nat×Nat×Value)}{E:World->Prop}{l:List Oper}
  (k:Kept B w n L W) (he:E W) (hE:∀W W',E W->Below W.heap.size W W'->E W') (hm:P.follows .mixedOrders=true) (hB:Region.lexB .any l.toArray=true)
  (h:Nonempty (KX B w n L E)->wpQuiet P l.toArray (fun w' =>∃s:KX B w n L E,w' =s.val) (fun a' =>∀w',(∃s:KX B w n L E,w' =s.val)->Q .normal a' w') l a):(Code.region id l.toArray true).wp P Q a W:=
 wp_region_quiet (C:=fun w' =>∃s:KX B w n L E,w' =s.val) hm hB ⟨⟨W.drew,k.drew,hE _ _ he ((Below.refl _ _).drew)⟩,rfl⟩ (by simpa using h ⟨⟨W,k,he⟩⟩)

theorem calls_keptX{P:Program}{f:FuncId}{args:Array Value}{w:World}{v:Value}{B n:Nat}{L:List (Nat×Nat×Value)}{E:World->Prop}(hB:B<=n)(hE:∀W W',E W->Below W.heap.size W W'->E W'){s:KX B w n L E}
  (h:Calls P f args s.val fun e w' =>e= .returned v/\Below s.val.heap.size s.val w'):Calls P f args s.val fun e w'' =>e= .returned v/\∃s':KX B w n L E,w'' =s'.val:=
 h.mono fun _ w' ⟨he,hb⟩=>⟨he,⟨w',s.kept.step hB hb,hE _ _ s.ex hb⟩,rfl⟩

theorem calls_keptX0{P:Program}{f:FuncId}{args:Array Value}{w:World}{v:Value}{B n:Nat}{L:List (Nat×Nat×Value)}{E:World->Prop}{s:KX B w n L E}
  (h:Calls P f args s.val fun e w' =>e= .returned v/\s.val=w'):Calls P f args s.val fun e w'' =>e= .returned v/\∃s':KX B w n L E,w'' =s'.val:=
 h.mono fun _ _ ⟨he,hb⟩=>⟨he,s,hb.symm⟩

structure Only(P:Nat)(W W':World):Prop where
 os:W'.os=W.os
 tape:W'.tape=W.tape
 output:W'.output=W.output
 size:W.heap.size<=W'.heap.size
 block:∀k,k<W.heap.size->k≠P->W'.heap[k]? =W.heap[k]?

theorem Only.of{P:Nat}{W W':World}(h:Below W.heap.size W W'):Only P W W':=⟨h.os,h.tape,h.output,h.size,fun k hk _=>h.block k hk⟩
theorem Only.refl(P:Nat)(W:World):Only P W W:= .of (Below.refl _ _)
theorem Only.drew{P:Nat}{W W':World}(h:Only P W W'):Only P W W'.drew:=⟨h.os,h.tape,h.output,h.size,h.block⟩
theorem Only.drewN{P:Nat}{W W':World}(h:Only P W W')(n:Nat):Only P W (W'.drewN n):=⟨h.os,h.tape,h.output,h.size,h.block⟩
theorem Only.setCell{P:Nat}{W W':World}(h:Only P W W')(i:Nat)(v:Value):Only P W (W'.setCell ⟨P,i,none⟩ v):=
 ⟨h.os,h.tape,h.output,by simp[World.setCell,h.size],fun k hk hne=>(Below.heap_setCell _ _ _ _ hne).trans (h.block k hk hne)⟩
theorem Only.trans{P:Nat}{a b c:World}(h:Only P a b)(k:Only P b c):Only P a c:=
 ⟨k.os.trans h.os,k.tape.trans h.tape,k.output.trans h.output,Nat.le_trans h.size k.size,fun i hi hne=>(k.block i (Nat.lt_of_lt_of_le hi h.size) hne).trans (h.block i hi hne)⟩
theorem Only.grow{P:Nat}{w W W':World}(h:Only P w W)(g:Below W.heap.size W W'):Only P w W':=h.trans (Only.of g)
theorem Only.setNew{P:Nat}{w W:World}(h:Only P w W){q:Addr}(hq:w.heap.size<=q.block)(v:Value):Only P w (W.setCell q v):=
 ⟨h.os,h.tape,h.output,by simp[World.setCell,h.size],fun k hk hne=>(Below.heap_setCell _ _ _ _ (by omega)).trans (h.block k hk hne)⟩
theorem Only.cell{P:Nat}{W W':World}(h:Only P W W'){b o:Nat}(hlt:b<W.heap.size)(hb:b≠P):W'.cell? ⟨b,o,none⟩=W.cell? ⟨b,o,none⟩:=World.cell?_of_block (w:=W) (h.block b hlt hb)
theorem Only.frozen{P:Nat}{W W':World}(h:Only P W W'){b o:Nat}(hlt:b<W.heap.size)(hb:b≠P):W'.frozen? ⟨b,o,none⟩=W.frozen? ⟨b,o,none⟩:=World.frozen?_of_block (w:=W) (h.block b hlt hb)
theorem Only.below{B P:Nat}{w W W':World}(h:Only P W W')(hb:Below B w W)(hP:B<=P)(hB:B<=W.heap.size):Below B w W':=
 ⟨h.os.trans hb.os,h.tape.trans hb.tape,h.output.trans hb.output,Nat.le_trans hb.size h.size,fun k hk=>(h.block k (by omega) (by omega)).trans (hb.block k hk)⟩

theorem Kept.only{B n P:Nat}{w W W':World}{L:List (Nat×Nat×Value)}(k:Kept B w n L W)(h:Only P W W')(hB:B<=n)(hP:B<=P)(hne:∀x∈L,x.1≠P):Kept B w n L W':=
 ⟨h.below k.below hP (Nat.le_trans hB k.size),Nat.le_trans k.size h.size,fun x hx=>by
  obtain⟨h1,h2,h3⟩:=k.cells x hx
  have hlt:x.1<W.heap.size:=Nat.lt_of_lt_of_le h1 k.size
  exact⟨h1,(h.cell hlt (hne x hx)).trans h2,(h.frozen hlt (hne x hx)).trans h3⟩⟩

theorem Kept.ofOnly{B n P:Nat}{w W W':World}{L:List (Nat×Nat×Value)}(h:Only P W W')(hB:B<=n)(hP:B<=P)(hne:∀x∈L,x.1≠P)(h1:Below B w W)(h2:n<=W.heap.size)
  (h3:∀x∈L,x.1<n/\W.cell? ⟨x.1,x.2.1,none⟩=some x.2.2/\W.frozen? ⟨x.1,x.2.1,none⟩=false):Kept B w n L W':=Kept.only ⟨h1,h2,h3⟩ h hB hP hne

theorem live{W w1:World}(hb:Below W.heap.size W w1){b o:Nat}{v:Value}(h:b<W.heap.size)(hc:W.cell? ⟨b,o,none⟩=some v):w1.cell? ⟨b,o,none⟩=some v:=(hb.cell (p:=⟨b,o,none⟩) h).trans hc
theorem liveF{W w1:World}(hb:Below W.heap.size W w1){b o:Nat}(h:b<W.heap.size)(hc:W.frozen? ⟨b,o,none⟩=false):w1.frozen? ⟨b,o,none⟩=false:=(hb.frozen (p:=⟨b,o,none⟩) h).trans hc
theorem below_via{w W w1:World}(h:Below w.heap.size w W)(hb:Below W.heap.size W w1):Below w.heap.size w w1:=h.trans (hb.mono h.size)

theorem ret_bool{a b:Bool}(h:a=b):Ending.returned (.bool a)= .returned (.bool b):=by rw[h]
theorem ret_int{k:IntKind}{a b:Int}(h:a=b):Ending.returned (.int k a)= .returned (.int k b):=by rw[h]
theorem val_int{k:IntKind}{a b:Int}(h:a=b):Value.int k a= .int k b:=by rw[h]
theorem ret_two{k l:IntKind}{a b c d:Int}(h:a=b)(g:c=d):Ending.returned (.tuple #[.int k a,.int l c])= .returned (.tuple #[.int k b,.int l d]):=by rw[h,g]
theorem rck{B n:Nat}{w:World}{L:List (Nat×Nat×Value)}{E:World->Prop}{p:Addr}{v:Value}(_:Nonempty (KX B w n L E))(d:w.cell? p=Option.some v)(h:p.block<B):∀s:KX B w n L E,s.val.cell? p=Option.some v:=fun s=>(s.kept.below.cell h).trans d
theorem cA{W:World}{b o q:Nat}{l:List Value}(h:∀(j:Nat) (u:Value),l[j]? =Option.some u->W.cell? ⟨b,o+(q+j),Option.none⟩=Option.some u)(j:Nat){u:Value}(hu:l[j]? =Option.some u):W.cell? ⟨b,o+q+j,Option.none⟩=Option.some u:=by rw[Nat.add_assoc];exact h j u hu
end Go.Proofs.YtpbepnpnpopmfaaGreat
namespace Go.Proofs.YtpbepnpnpopmfaaGreat
set_option linter.unusedVariables false

structure Onl(S:List Nat)(W W':World):Prop where
 os:W'.os=W.os
 tape:W'.tape=W.tape
 output:W'.output=W.output
 size:W.heap.size<=W'.heap.size
 block:∀k,k<W.heap.size->k∉S->W'.heap[k]? =W.heap[k]?

theorem Onl.of{S:List Nat}{W W':World}(h:Below W.heap.size W W'):Onl S W W':=⟨h.os,h.tape,h.output,h.size,fun k hk _=>h.block k hk⟩
theorem Onl.refl(S:List Nat)(W:World):Onl S W W:= .of (Below.refl _ _)
theorem Onl.trans{S:List Nat}{a b c:World}(h:Onl S a b)(k:Onl S b c):Onl S a c:=
 ⟨k.os.trans h.os,k.tape.trans h.tape,k.output.trans h.output,Nat.le_trans h.size k.size,fun i hi hne=>(k.block i (Nat.lt_of_lt_of_le hi h.size) hne).trans (h.block i hi hne)⟩
theorem Onl.grow{S:List Nat}{w W W':World}(h:Onl S w W)(g:Below W.heap.size W W'):Onl S w W':=h.trans (.of g)
theorem Onl.drew{S:List Nat}{w W:World}(h:Onl S w W):Onl S w W.drew:=⟨h.os,h.tape,h.output,h.size,h.block⟩
theorem Onl.setCell{S:List Nat}{w W:World}(h:Onl S w W){q:Addr}(hq:q.block∈S\/w.heap.size<=q.block)(v:Value):Onl S w (W.setCell q v):=
 ⟨h.os,h.tape,h.output,by simp[World.setCell,h.size],fun k hk hne=>(Below.heap_setCell _ _ _ _ (by rintro rfl;rcases hq with h1|h1;exact hne h1;omega)).trans (h.block k hk hne)⟩
theorem Onl.setRow{S:List Nat}{w W:World}(h:Onl S w W){g:Nat}(hq:g∈S\/w.heap.size<=g)(cs:Array Value):Onl S w (W.setRow g cs):=
 ⟨h.os,h.tape,h.output,by simp[World.setRow,h.size],fun k hk hne=>(setRow_other _ _ _ _ (by rintro rfl;rcases hq with h1|h1;exact hne h1;omega)).trans (h.block k hk hne)⟩
theorem Onl.setCells{S:List Nat}{w:World}{g:Nat}:∀(vs:List Value) (o:Nat) (W:World),Onl S w W->(g∈S\/w.heap.size<=g)->Onl S w (W.setCells g o vs)
 |[],_,_,h,_=>h
 |v::r,o,W,h,hq=>Onl.setCells r (o+1) _ (h.setCell (q:=⟨g,o,none⟩) hq v) hq
theorem Onl.less{S S':List Nat}{w W:World}(h:Onl S w W)(hs:∀k∈S,k∈S'\/w.heap.size<=k):Onl S' w W:=
 ⟨h.os,h.tape,h.output,h.size,fun k hk hne=>h.block k hk (fun hm=>by rcases hs k hm with h1|h1;exact hne h1;omega)⟩
theorem Onl.below{S:List Nat}{w W:World}(h:Onl S w W)(hs:∀k∈S,w.heap.size<=k):Below w.heap.size w W:=
 ⟨h.os,h.tape,h.output,h.size,fun k hk=>h.block k hk (fun hm=>by have:=hs k hm;omega)⟩
theorem Onl.cell{S:List Nat}{W W':World}(h:Onl S W W'){b o:Nat}(hlt:b<W.heap.size)(hb:b∉S):W'.cell? ⟨b,o,none⟩=W.cell? ⟨b,o,none⟩:=World.cell?_of_block (w:=W) (h.block b hlt hb)
theorem Onl.frozen{S:List Nat}{W W':World}(h:Onl S W W'){b o:Nat}(hlt:b<W.heap.size)(hb:b∉S):W'.frozen? ⟨b,o,none⟩=W.frozen? ⟨b,o,none⟩:=World.frozen?_of_block (w:=W) (h.block b hlt hb)

theorem Kept.onl{B n:Nat}{S:List Nat}{w W W':World}{L:List (Nat×Nat×Value)}(k:Kept B w n L W)(h:Onl S W W')(hB:B<=n)(hS:∀b∈S,B<=b)(hne:∀x∈L,x.1∉S):Kept B w n L W':=
 ⟨⟨h.os.trans k.below.os,h.tape.trans k.below.tape,h.output.trans k.below.output,Nat.le_trans k.below.size h.size,fun i hi=>(h.block i (Nat.lt_of_lt_of_le hi (Nat.le_trans hB k.size)) (fun hm=>by have:=hS i hm;omega)).trans (k.below.block i hi)⟩,
  Nat.le_trans k.size h.size,fun x hx=>by
  obtain⟨h1,h2,h3⟩:=k.cells x hx
  have hlt:x.1<W.heap.size:=Nat.lt_of_lt_of_le h1 k.size
  exact⟨h1,(h.cell hlt (hne x hx)).trans h2,(h.frozen hlt (hne x hx)).trans h3⟩⟩
end Go.Proofs.YtpbepnpnpopmfaaGreat
namespace Go.Proofs.YtpbepnpnpopmfaaGreat
set_option linter.unusedVariables false

section
variable {α:Type} {f:α->List Value} {sz:Nat}

def Rw(f:α->List Value)(sz:Nat)(w:World)(v:Value)(l:List α):Prop:=
 (l=[]/\(v= .slice none 0 0\/∃a cap,v= .slice (some a) 0 cap))\/
 (l≠[]/\l.length<=maxLen/\∃b off cap,v= .slice (some ⟨b,off,none⟩) l.length cap/\b<w.heap.size/\∀i x,l[i]? =some x->∀j u,(f x)[j]? =some u->w.cell? ⟨b,off+(i*sz+j),none⟩=some u)

theorem Rw.below{w w':World}{v:Value}{l:List α}(h:Rw f sz w v l)(hb:Below w.heap.size w w'):Rw f sz w' v l:=by
 rcases h with h|⟨h0,h1,b,off,cap,hv,hlt,hc⟩
 ·exact .inl h
 exact .inr ⟨h0,h1,b,off,cap,hv,Nat.lt_of_lt_of_le hlt hb.size,fun i x hi j u hu=>(hb.cell (p:=⟨b,off+(i*sz+j),none⟩) hlt).trans (hc i x hi j u hu)⟩
theorem Rw.drew{w:World}{v:Value}{l:List α}(h:Rw f sz w v l):Rw f sz w.drew v l:=h.below ((Below.refl _ _).drew)
theorem Rw.onl{S:List Nat}{w w':World}{v:Value}{l:List α}(h:Rw f sz w v l)(ho:Onl S w w')(hs:∀b,v.ownBlock=some b->b∉S):Rw f sz w' v l:=by
 rcases h with h|⟨h0,h1,b,off,cap,rfl,hlt,hc⟩
 ·exact .inl h
 exact .inr ⟨h0,h1,b,off,cap,rfl,Nat.lt_of_lt_of_le hlt ho.size,fun i x hi j u hu=>(ho.cell (b:=b) hlt (hs b rfl)).trans (hc i x hi j u hu)⟩
theorem Rw.form{w:World}{v:Value}{l:List α}(h:Rw f sz w v l):l.length<=9223372036854775807/\∃a cap,v= .slice a l.length cap/\(0<l.length->∃b off,a=some ⟨b,off,none⟩/\b<w.heap.size/\∀i x,l[i]? =some x->∀j u,(f x)[j]? =some u->w.cell? ⟨b,off+(i*sz+j),none⟩=some u):=by
 rcases h with⟨rfl,rfl|⟨a,cap,rfl⟩⟩|⟨h0,h1,b,off,cap,rfl,hlt,hc⟩
 ·exact⟨by simp,none,0,rfl,fun h=>by simp at h⟩
 ·exact⟨by simp,some a,cap,rfl,fun h=>by simp at h⟩
 exact⟨by unfold maxLen at h1;omega,_,cap,rfl,fun _=>⟨b,off,rfl,hlt,hc⟩⟩
theorem Rw.max{w:World}{v:Value}{l:List α}(h:Rw f sz w v l):l.length<=maxLen:=by
 rcases h with⟨rfl,_⟩|⟨_,h1,_⟩
 ·simp[maxLen]
 exact h1
theorem Rw.nil(w:World):Rw f sz w (.slice none 0 0) ([]:List α):= .inl ⟨rfl,.inl rfl⟩
theorem Rw.take{w:World}{a:Option Addr}{n c:Nat}{l:List α}(h:Rw f sz w (.slice a n c) l){k:Nat}(hk:k<=n)(c':Nat)(hc':a=none->c' =0):Rw f sz w (.slice a k c') (l.take k):=by
 have nl:l.take 0=[]:=rfl
 have z:∀l':List α,l' =[]->Rw f sz w (.slice a 0 c') l':=fun l' e=>by
  cases a with
  |none=>rw[hc' rfl];exact .inl ⟨e,.inl rfl⟩
  |some a=>exact .inl ⟨e,.inr ⟨a,c',rfl⟩⟩
 rcases h with⟨rfl,hv⟩|⟨h0,h1,b,off,cap,hv,hlt,hc⟩
 ·have hn:n=0:=by rcases hv with hv|⟨_,_,hv⟩<;>(cases hv<;>rfl)
  obtain rfl:k=0:=by omega
  exact z _ rfl
 cases hv
 rcases Nat.eq_zero_or_pos k with rfl|h2
 ·exact z _ rfl
 have hl:(l.take k).length=k:=by simp;omega
 refine .inr ⟨by intro e;rw[e] at hl;simp at hl;omega,by omega,b,off,c',by rw[hl],hlt,fun i x hi=> ?_⟩;have hik:=(List.getElem?_eq_some_iff.1 hi).1;rw[List.getElem?_take_of_lt (by omega)] at hi
 exact hc i x hi
theorem Rw.drop{w:World}{b off n c:Nat}{l:List α}(h:Rw f sz w (.slice (some ⟨b,off,none⟩) n c) l){k:Nat}(hk:k<=n)(c' o':Nat)(ho:k<n->o' =off+k*sz):Rw f sz w (.slice (some ⟨b,o',none⟩) (n-k) c') (l.drop k):=by
 rcases h with⟨rfl,hv⟩|⟨h0,h1,b',off',cap,hv,hlt,hc⟩
 ·have hn:n=0:=by rcases hv with hv|⟨_,_,hv⟩<;>(cases hv<;>rfl)
  subst hn;obtain rfl:k=0:=by omega
  exact .inl ⟨rfl,.inr ⟨_,_,rfl⟩⟩
 cases hv
 rcases Nat.eq_zero_or_pos (l.length-k) with h2|h2
 ·exact .inl ⟨List.eq_nil_of_length_eq_zero (by simp;omega),.inr ⟨_,_,by rw[h2]⟩⟩
 rw[ho (by omega)];refine .inr ⟨by intro e;have:=congrArg List.length e;simp at this;omega,by rw[List.length_drop];omega,b,off+k*sz,c',by simp,hlt,fun i x hi j u hu=> ?_⟩;rw[List.getElem?_drop] at hi
 have:=hc (k+i) x hi j u hu
 rw[Nat.add_mul] at this
 rw[<-this]
 congr 2
 omega

theorem flat_at{l:List α}(hs:∀x∈l,(f x).length=sz){i j:Nat}{x:α}{u:Value}(hi:l[i]? =some x)(hj:(f x)[j]? =some u):(l.flatMap f)[i*sz+j]? =some u:=by
 induction l generalizing i with
 |nil=>simp at hi
 |cons a l ih=>
  have ha:(f a).length=sz:=hs a (by simp);rw[List.flatMap_cons]
  cases i with
  |zero=>
   simp at hi
   subst hi;rw[List.getElem?_append_left (by rw[Nat.zero_mul,Nat.zero_add];exact(List.getElem?_eq_some_iff.1 hj).1),Nat.zero_mul,Nat.zero_add];exact hj
  |succ i=>
   have hge:sz<=(i+1)*sz+j:=by rw[Nat.add_mul];omega
   rw[List.getElem?_append_right (by omega),ha];have h2:=ih (fun x hx=>hs x (by simp[hx])) (i:=i) (by simpa using hi);rw[<-h2]
   congr 1
   rw[Nat.add_mul];omega
theorem flat_of{l:List α}(hs:∀x∈l,(f x).length=sz){q:Nat}{u:Value}(h:(l.flatMap f)[q]? =some u):∃i j x,l[i]? =some x/\(f x)[j]? =some u/\q=i*sz+j:=by
 induction l generalizing q with
 |nil=>simp at h
 |cons a l ih=>
  have ha:(f a).length=sz:=hs a (by simp);rw[List.flatMap_cons] at h
  rcases Nat.lt_or_ge q (f a).length with h1|h1
  ·rw[List.getElem?_append_left h1] at h
   exact⟨0,q,a,rfl,h,by omega⟩
  rw[List.getElem?_append_right h1] at h
  obtain⟨i,j,x,h2,h3,h4⟩:=ih (fun x hx=>hs x (by simp[hx])) h
  exact⟨i+1,j,x,by simpa using h2,h3,by rw[Nat.add_mul];omega⟩
theorem flat_length{l:List α}(hs:∀x∈l,(f x).length=sz):(l.flatMap f).length=l.length*sz:=by
 induction l with
 |nil=>simp
 |cons a l ih=>
  rw[List.flatMap_cons,List.length_append,ih (fun x hx=>hs x (by simp[hx])),hs a (by simp),List.length_cons,Nat.add_mul];omega

def Ow(f:α->List Value)(sz:Nat)(e:TypeId)(w:World)(base:Nat)(v:Value)(l:List α):Prop:=w.ownsRow base e sz v l.length (l.flatMap f)
theorem Ow.nil(e:TypeId)(w:World)(base:Nat):Ow f sz e w base (.slice none 0 0) ([]:List α):=World.ownsRow_nil _ _ _ _
theorem Ow.rw{e:TypeId}{w:World}{base:Nat}{v:Value}{l:List α}(h:Ow f sz e w base v l)(hs:∀x∈l,(f x).length=sz):Rw f sz w v l:=by
 rcases h.2 with⟨h1,h2⟩|⟨g,cap,cur,h1,hb,hg,hn,hcap,hsz,ht⟩
 ·exact .inl ⟨List.eq_nil_of_length_eq_zero h2,.inl h1⟩
 rcases Nat.eq_zero_or_pos l.length with h0|h0
 ·exact .inl ⟨List.eq_nil_of_length_eq_zero h0,.inr ⟨⟨g,0,none⟩,cap,by rw[h1,h0]⟩⟩
 refine .inr ⟨by intro e;rw[e] at h0;simp at h0,by omega,g,0,cap,h1,(Array.getElem?_eq_some_iff.1 hg).1,fun i x hi j u hu=> ?_⟩;subst h1;have hq:=flat_at hs hi hu;have hlt:i*sz+j<l.length*sz:=by have:=(List.getElem?_eq_some_iff.1 hq).1;rwa [flat_length hs] at this
 rw[Nat.zero_add,World.ownsRow.cellAt h _ hlt,hq]
theorem Ow.below{e:TypeId}{w w':World}{base:Nat}{v:Value}{l:List α}(h:Ow f sz e w base v l)(hb:Below w.heap.size w w'):Ow f sz e w' base v l:=by
 refine⟨h.1,?_⟩
 rcases h.2 with h2|⟨g,cap,cur,h1,h2,h3,h4⟩
 ·exact .inl h2
 exact .inr ⟨g,cap,cur,h1,h2,(hb.block g (Array.getElem?_eq_some_iff.1 h3).1).trans h3,h4⟩
theorem Ow.onl{e:TypeId}{S:List Nat}{w w':World}{base:Nat}{v:Value}{l:List α}(h:Ow f sz e w base v l)(ho:Onl S w w')(hs:∀b,v.ownBlock=some b->b∉S):Ow f sz e w' base v l:=by
 refine⟨h.1,?_⟩
 rcases h.2 with h2|⟨g,cap,cur,rfl,h2,h3,h4⟩
 ·exact .inl h2
 exact .inr ⟨g,cap,cur,rfl,h2,(ho.block g (Array.getElem?_eq_some_iff.1 h3).1 (hs g rfl)).trans h3,h4⟩
theorem Ow.base{e:TypeId}{w:World}{base base':Nat}{v:Value}{l:List α}(h:Ow f sz e w base v l)(hb:∀b,v.ownBlock=some b->base'<=b):Ow f sz e w base' v l:=by
 refine⟨h.1,?_⟩
 rcases h.2 with h2|⟨g,cap,cur,rfl,h2,h3,h4⟩
 ·exact .inl h2
 exact .inr ⟨g,cap,cur,rfl,hb g rfl,h3,h4⟩
theorem Ow.form{e:TypeId}{w:World}{base:Nat}{v:Value}{l:List α}(h:Ow f sz e w base v l):∃a cap,v= .slice a l.length cap:=by
 rcases h.2 with⟨rfl,h0⟩|⟨g,cap,cur,rfl,_⟩
 ·exact⟨none,0,by rw[h0]⟩
 exact⟨_,_,rfl⟩
theorem Ow.max{e:TypeId}{w:World}{base:Nat}{v:Value}{l:List α}(h:Ow f sz e w base v l):l.length<=maxLen:=by
 rcases h.2 with⟨_,h0⟩|⟨g,cap,cur,_,_,_,h1,h2,_⟩
 ·rw[h0];simp[maxLen]
 omega
theorem Ow.typ{e:TypeId}{w:World}{base:Nat}{v:Value}{l:List α}(h:Ow f sz e w base v l):∀b,v.ownBlock=some b->base<=b/\b<w.heap.size/\∃cur,w.heap[b]? =some (.cells cur e (0,0)):=by
 intro b hb;rcases h.2 with⟨rfl,h0⟩|⟨g,cap,cur,rfl,h1,h2,_⟩
 ·simp[Value.ownBlock] at hb
 simp[Value.ownBlock] at hb
 subst hb
 exact⟨h1,(Array.getElem?_eq_some_iff.1 h2).1,_,h2⟩
theorem Ow.lit(w:World)(e:TypeId)(l:List α)(cs:Array Value)(hcs:cs.toList=l.flatMap f)(hs:∀x∈l,(f x).length=sz)(base:Nat)(hb:base<=w.heap.size)(hm:l.length<=maxLen):Ow f sz e (w.alloc (.cells cs e)) base (.slice (some ⟨w.heap.size,0,none⟩) l.length l.length) l:=by
 have h:=World.ownsRow_lit (base:=base) (e:=e) (size:=sz) w cs l.length hb hm (by rw[<-Array.length_toList,hcs,flat_length hs]);rw[hcs] at h
 exact h
theorem Ow.grown{e:TypeId}{w w':World}{base:Nat}{v:Value}{l:List α}{row:Option Nat}(h:Ow f sz e w base v l)(hg:w.grownBy w' row)(hne:∀b,v.ownBlock=some b->row≠some b):Ow f sz e w' base v l:=
 World.ownsRow.kept h hg (by
  cases hv:v.ownBlock with
  |none=>exact .inl rfl
  |some b=>exact .inr (fun e=>hne b hv e.symm))
theorem Ow.ne{β:Type}{f':β->List Value}{sz':Nat}{e e':TypeId}{w:World}{base base':Nat}{v v':Value}{l:List α}{l':List β}(h:Ow f sz e w base v l)(h':Ow f' sz' e' w base' v' l')(he:e≠e'):∀b,v.ownBlock=some b->v'.ownBlock≠some b:=by
 intro b hb hb'
 obtain⟨_,_,c1,h1⟩:=h.typ b hb
 obtain⟨_,_,c2,h2⟩:=h'.typ b hb'
 rw[h1] at h2
 simp at h2
 exact he h2.2
theorem Ow.set1{e:TypeId}{w:World}{base g n cap:Nat}{l:List α}(h:Ow f 1 e w base (.slice (some ⟨g,0,none⟩) n cap) l)(hs:∀x,(f x).length=1)(hn:n=l.length)(i:Nat)(x:α)(u:Value)(hu:f x=[u]):Ow f 1 e (w.setCell ⟨g,i,none⟩ u) base (.slice (some ⟨g,0,none⟩) n cap) (l.set i x):=by
 subst hn;have h1:=(World.ownsRow.stored h i u).1
 have e2:∀(l:List α) (i:Nat),(l.flatMap f).set i u=(l.set i x).flatMap f:=by
  intro l
  induction l with
  |nil=>intro i;simp
  |cons a l ih=>
   intro i
   obtain⟨y,hy⟩:∃y,f a=[y]:=by
    match hf:f a,hs a with
    |[y],_=>exact⟨y,rfl⟩
   cases i with
   |zero=>simp[List.flatMap_cons,hy,hu]
   |succ i=>
    simp only[List.flatMap_cons,hy,List.cons_append,List.nil_append,List.set_cons_succ];rw[ih i]
 rw[e2] at h1
 unfold Ow;rw[List.length_set];exact h1
theorem Rw.one(w:World)(T:TypeId)(x:α)(cs:Array Value)(h:cs.toList=f x)(cap:Nat):Rw f sz (w.alloc (.cells cs T)) (.slice (some ⟨w.heap.size,0,none⟩) 1 cap) [x]:=
 .inr ⟨by simp,by simp[maxLen],_,0,cap,rfl,by simp,fun i y hi j u hu=>by
  have hi0:i=0:=by have:=(List.getElem?_eq_some_iff.1 hi).1;simp at this;omega
  subst hi0;simp at hi
  subst hi;rw[show 0+(0*sz+j)=j by omega,cell_of_row (w.alloc (.cells cs T)) w.heap.size j cs T (0,0) (heap_alloc_new w _),<-Array.getElem?_toList,h,hu]⟩
theorem Rw.one2(w:World)(T:TypeId)(x:α)(cs:Array Value)(h:cs.toList=f x)(cap n:Nat)(hn:n=w.heap.size):Rw f sz (w.alloc (.cells cs T)) (.slice (some ⟨n,0,none⟩) 1 cap) [x]:=by
 subst hn;exact Rw.one w T x cs h cap
theorem Onl.grown{S:List Nat}{w W W':World}{row:Option Nat}(h:Onl S w W)(g:W.grownBy W' row)(hr:∀k,row=some k->k∈S\/w.heap.size<=k):Onl S w W':=
 ⟨g.os.trans h.os,g.tape.trans h.tape,g.output.trans h.output,Nat.le_trans h.size g.size,fun k hk hne=>(g.block k (Nat.lt_of_lt_of_le hk h.size) (by
  intro e;rcases hr k e.symm with h1|h1
  ·exact hne h1
  omega)).trans (h.block k hk hne)⟩

theorem wpList_append_ow{P:Program}{w:World}{ops:Array Oper}{rest:List Oper}{o:Oper}{a:Act}{Q:Exit->Act->World->Prop}(hgd:o.guard=none)(s x:Operand)(t:TypeId)
  (ho:o.op= .call {callee:= .builtin .append,args:= #[s,x],argTypes:= #[t,t]})
  (base:Nat) (e:TypeId) (z:Value) (bytes:Nat) (ht:P.underlying t=some (.slice e)) (hi:(P.info? e).map (fun i=>(i.zero,i.size,i.bytes))=some (some z,sz,bytes))
  (hzs:z.cells.size=sz) (hsz:0<sz) (v:Value) (l:List α) (hs:a.eval s=v) (hown:Ow f sz e w base v l) (hf:∀x,(f x).length=sz/\∀u∈f x,u.oneCell' =true)
  (u:Value) (m:List α) (hx:a.eval x=u) (hm:Rw f sz w u m) (h63:l.length+m.length<=maxLen) (hbytes:(l.length+m.length)*bytes<=140737488355328) (hbase:base<=w.heap.size)
  (h:∀v' w',Ow f sz e w' base v' (l++m)->w.grownBy w' v.ownBlock->(v'.ownBlock=v.ownBlock\/v'.ownBlock=some w.heap.size)->wpList P ops Q rest (a.put o.dst v') w'):wpList P ops Q (o::rest) a w:=by
 obtain⟨i,hi2,hz,hsize,hby⟩:∃i,P.info? e=some i/\i.zero=some z/\i.size=sz/\i.bytes=bytes:=by
  cases hi0:P.info? e with
  |none=>rw[hi0] at hi;simp at hi
  |some i=>
   rw[hi0] at hi
   simp at hi
   exact⟨i,rfl,hi.1,hi.2.1,hi.2.2⟩
 have go:∀(ad:Addr) (c:Nat),a.eval x= .slice (some ad) m.length c->(∀j u,(m.flatMap f)[j]? =some u->w.cell? (ad.add j)=some u)->wpList P ops Q (o::rest) a w:=by
  intro ad c hx2 hc;refine wpList_append_own_at w hgd s x t ho base e i z sz bytes ht hi2 hz hsize hby hzs hsz v l.length (l.flatMap f) hs hown ad m.length c (m.flatMap f) hx2 (flat_length (fun x _=>(hf x).1)) hc (fun u hu=> ?_) h63 hbytes hbase ?_
  ·obtain⟨x,_,hx3⟩:=List.mem_flatMap.1 hu
   exact(hf x).2 u hx3
  intro v' w' h1 h2 _ h4;refine h v' w' ?_ h2 h4;unfold Ow;rw[List.length_append,List.flatMap_append];exact h1
 rcases hm with⟨rfl,rfl|⟨ad,cap,rfl⟩⟩|⟨h0,h1,b,off,cap,rfl,hlt,hc⟩
 ·exact wpList_append_own_none hgd s x t ho base e i sz ht hi2 v l.length (l.flatMap f) hs hown hx (h _ _ (by rw[List.append_nil];exact hown) ⟨rfl,rfl,rfl,Nat.le_refl _,fun _ _ _=>rfl⟩ (.inl rfl))
 ·exact go ad cap hx (by simp)
 refine go _ cap hx (fun j u hj=> ?_)
 obtain⟨i,j',y,h2,h3,rfl⟩:=flat_of (fun x _=>(hf x).1) hj
 rw[WideShapes.add_plain];exact hc i y h2 j' u h3
end
end Go.Proofs.YtpbepnpnpopmfaaGreat
