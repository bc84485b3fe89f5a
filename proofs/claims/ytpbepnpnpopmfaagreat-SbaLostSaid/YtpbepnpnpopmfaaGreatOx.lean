/- Rows of our own whose block lies in a range, and stores into them. -/
import Derived.Test.YtpbepnpnpopmfaaGreatRw
import Derived.Laws.Rows
import Derived.Laws.IdiomCopy
open Go.RowKit Go.Proofs.YtpbepnpnpopmfaaGreat
namespace Go.Proofs.YtpbepnpnpopmfaaGreat
set_option linter.unusedVariables false

structure Rng(lo hi:Nat)(w w':World):Prop where
 os:w'.os=w.os
 tape:w'.tape=w.tape
 output:w'.output=w.output
 size:w.heap.size<=w'.heap.size
 block:∀k,k<w.heap.size->¬(lo<=k/\k<hi)->w'.heap[k]? =w.heap[k]?
theorem Rng.of{lo hi:Nat}{w w':World}(h:Below w.heap.size w w'):Rng lo hi w w':=⟨h.os,h.tape,h.output,h.size,fun k hk _=>h.block k hk⟩
theorem Rng.refl(lo hi:Nat)(w:World):Rng lo hi w w:= .of (Below.refl _ _)
theorem Rng.trans{lo hi:Nat}{a b c:World}(h:Rng lo hi a b)(k:Rng lo hi b c):Rng lo hi a c:=
 ⟨k.os.trans h.os,k.tape.trans h.tape,k.output.trans h.output,Nat.le_trans h.size k.size,fun i hi hn=>(k.block i (Nat.lt_of_lt_of_le hi h.size) hn).trans (h.block i hi hn)⟩
theorem Rng.grow{lo hi:Nat}{a b c:World}(h:Rng lo hi a b)(k:Below b.heap.size b c):Rng lo hi a c:=h.trans (.of k)
theorem Rng.mono{lo hi lo' hi':Nat}{w w':World}(h:Rng lo hi w w')(h1:lo'<=lo)(h2:hi<=hi'):Rng lo' hi' w w':=⟨h.os,h.tape,h.output,h.size,fun k hk hn=>h.block k hk (fun h3=>hn ⟨by omega,by omega⟩)⟩
theorem Rng.below{B lo hi:Nat}{w0 w w':World}(h0:Below B w0 w)(h:Rng lo hi w w')(hB:B<=lo)(hs:B<=w.heap.size):Below B w0 w':=
 ⟨h.os.trans h0.os,h.tape.trans h0.tape,h.output.trans h0.output,Nat.le_trans h0.size h.size,fun k hk=>(h.block k (by omega) (by omega)).trans (h0.block k hk)⟩
theorem Rng.onl{lo hi:Nat}{S:List Nat}{w w':World}(h:Onl S w w')(hS:∀k∈S,lo<=k/\k<hi):Rng lo hi w w':=⟨h.os,h.tape,h.output,h.size,fun k hk hn=>h.block k hk (fun hm=>hn (hS k hm))⟩
theorem Rng.setCell{lo hi:Nat}{w:World}{q:Addr}(hq:lo<=q.block/\q.block<hi)(v:Value):Rng lo hi w (w.setCell q v):=
 ⟨rfl,rfl,rfl,by simp[World.setCell],fun k hk hn=>Below.heap_setCell _ _ _ _ (by rintro rfl;exact hn hq)⟩

theorem belowOnl{B:Nat}{a w w':World}{S:List Nat}(h:Below B a w)(ho:Onl S w w')(hS:∀k∈S,B<=k)(hB:B<=w.heap.size):Below B a w':=
 ⟨ho.os.trans h.os,ho.tape.trans h.tape,ho.output.trans h.output,Nat.le_trans h.size ho.size,fun i hi=>(ho.block i (Nat.lt_of_lt_of_le hi hB) (fun hm=>by have:=hS i hm;omega)).trans (h.block i hi)⟩

section
variable {α:Type} {f:α->List Value} {sz:Nat}

def Ox(f:α->List Value)(sz:Nat)(e:TypeId)(lo hi:Nat)(w:World)(v:Value)(l:List α):Prop:=Ow f sz e w lo v l/\∀b,v.ownBlock=some b->b<hi
theorem Ox.keep{e:TypeId}{lo hi:Nat}{w w':World}{v:Value}{l:List α}(h:Ox f sz e lo hi w v l)(hk:∀k,lo<=k->k<hi->v.ownBlock=some k->w'.heap[k]? =w.heap[k]?):Ox f sz e lo hi w' v l:=by
 refine⟨⟨h.1.1,?_⟩,h.2⟩
 rcases h.1.2 with h2|⟨g,cap,cur,rfl,h2,h3,h4⟩
 ·exact .inl h2
 exact .inr ⟨g,cap,cur,rfl,h2,(hk g h2 (h.2 g rfl) rfl).trans h3,h4⟩
theorem Ox.mono{e:TypeId}{lo hi lo' hi':Nat}{w:World}{v:Value}{l:List α}(h:Ox f sz e lo hi w v l)(h1:lo'<=lo)(h2:hi<=hi'):Ox f sz e lo' hi' w v l:=
 ⟨h.1.base (fun b hb=>Nat.le_trans h1 (h.1.typ b hb).1),fun b hb=>Nat.lt_of_lt_of_le (h.2 b hb) h2⟩
theorem Ox.of{e:TypeId}{lo:Nat}{w:World}{v:Value}{l:List α}(h:Ow f sz e w lo v l):Ox f sz e lo w.heap.size w v l:=⟨h,fun b hb=>(h.typ b hb).2.1⟩
theorem Ox.below{e:TypeId}{lo hi:Nat}{w w':World}{v:Value}{l:List α}(h:Ox f sz e lo hi w v l)(hb:Below w.heap.size w w'):Ox f sz e lo hi w' v l:=⟨h.1.below hb,h.2⟩
theorem Ox.nil(e:TypeId)(lo hi:Nat)(w:World):Ox f sz e lo hi w (.slice none 0 0) ([]:List α):=⟨Ow.nil _ _ _,fun b hb=>by simp[Value.ownBlock] at hb⟩
theorem Ox.blk{e:TypeId}{lo hi:Nat}{w:World}{v:Value}{l:List α}(h:Ox f sz e lo hi w v l){b:Nat}(hb:v.ownBlock=some b):lo<=b/\b<hi/\b<w.heap.size:=⟨(h.1.typ b hb).1,h.2 b hb,(h.1.typ b hb).2.1⟩
theorem Ox.ne{β:Type}{f':β->List Value}{sz':Nat}{e e':TypeId}{lo hi lo' hi':Nat}{w w':World}{v v':Value}{l:List α}{l':List β}(h:Ox f sz e lo hi w v l)(h':Ox f' sz' e' lo' hi' w' v' l')(hr:hi<=lo'\/hi'<=lo):∀b,v.ownBlock=some b->v'.ownBlock≠some b:=by
 intro b hb hb';have h1:=h.blk hb;have h2:=h'.blk hb';omega
theorem Ox.net{β:Type}{f':β->List Value}{sz':Nat}{e e':TypeId}{lo hi lo' hi':Nat}{w:World}{v v':Value}{l:List α}{l':List β}(h:Ox f sz e lo hi w v l)(h':Ox f' sz' e' lo' hi' w v' l')(he:e≠e'):∀b,v.ownBlock=some b->v'.ownBlock≠some b:=by
 intro b hb hb'
 obtain⟨_,_,c1,h1⟩:=h.1.typ b hb
 obtain⟨_,_,c2,h2⟩:=h'.1.typ b hb'
 rw[h1] at h2
 simp at h2
 exact he h2.2
theorem Ox.rw{e:TypeId}{lo hi:Nat}{w:World}{v:Value}{l:List α}(h:Ox f sz e lo hi w v l)(hs:∀x∈l,(f x).length=sz):Rw f sz w v l:=Ow.rw h.1 hs
theorem Ox.pos{e:TypeId}{lo hi:Nat}{w:World}{v:Value}{l:List α}(h:Ox f sz e lo hi w v l)(h0:0<l.length):∃g cap,v= .slice (some ⟨g,0,none⟩) l.length cap/\lo<=g/\g<hi/\g<w.heap.size:=by
 rcases h.1.2 with⟨_,h2⟩|⟨g,cap,cur,h1,h2,h3,_⟩
 ·omega
 exact⟨g,cap,h1,h2,h.2 g (by rw[h1];rfl),(Array.getElem?_eq_some_iff.1 h3).1⟩
theorem flat_set{l:List α}(hs:∀x∈l,(f x).length=sz){i j:Nat}{x x':α}{u:Value}(hi:l[i]? =some x)(hj:j<sz)(hx:f x' =(f x).set j u):(l.flatMap f).set (i*sz+j) u=(l.set i x').flatMap f:=by
 induction l generalizing i with
 |nil=>simp at hi
 |cons a l ih=>
  have ha:(f a).length=sz:=hs a (by simp);rw[List.flatMap_cons]
  cases i with
  |zero=>
   simp at hi
   subst hi;rw[Nat.zero_mul,Nat.zero_add,List.set_append_left _ _ (by omega),List.set_cons_zero,List.flatMap_cons,hx]
  |succ i=>
   have hge:sz<=(i+1)*sz+j:=by rw[Nat.add_mul];omega
   rw[List.set_append_right _ _ (by omega),ha,List.set_cons_succ,List.flatMap_cons];have h2:=ih (fun x hx=>hs x (by simp[hx])) (i:=i) (by simpa using hi);rw[<-h2]
   congr 2
   rw[Nat.add_mul];omega
theorem Ox.setc{e:TypeId}{lo hi:Nat}{w:World}{g n cap:Nat}{l:List α}(h:Ox f sz e lo hi w (.slice (some ⟨g,0,none⟩) n cap) l)(hs:∀x∈l,(f x).length=sz){i j:Nat}{x x':α}{u:Value}(hxi:l[i]? =some x)(hj:j<sz)(hx:f x' =(f x).set j u)(q:Nat)(hq:q=i*sz+j):Ox f sz e lo hi (w.setCell ⟨g,q,none⟩ u) (.slice (some ⟨g,0,none⟩) n cap) (l.set i x'):=by
 subst hq
 obtain⟨a0,c0,hv⟩:=h.1.form
 simp only[Value.slice.injEq] at hv
 obtain⟨_,rfl,_⟩:=hv
 refine⟨?_,h.2⟩
 have h1:=(World.ownsRow.stored h.1 (i*sz+j) u).1;rw[flat_set hs hxi hj hx] at h1
 unfold Ow;rw[List.length_set];exact h1
theorem sets_stored{w:World}{base:Nat}{e:TypeId}{size g n cap:Nat}:∀(vs:List Value) (o:Nat) (xs:List Value) (w:World),w.ownsRow base e size (.slice (some ⟨g,0,none⟩) n cap) n xs->o+vs.length<=xs.length->(w.setCells g o vs).ownsRow base e size (.slice (some ⟨g,0,none⟩) n cap) n (xs.take o++(vs++xs.drop (o+vs.length)))
 |[],o,xs,w,h,_=>by simpa [World.setCells] using h
 |v::r,o,xs,w,h,hl=>by
  have h1:=(World.ownsRow.stored h o v).1;have h2:=sets_stored (w:=w) (base:=base) (e:=e) (size:=size) r (o+1) (xs.set o v) _ h1 (by simp at hl ⊢;omega);rw[World.setCells]
  have he:(xs.set o v).take (o+1)++(r++(xs.set o v).drop (o+1+r.length))=xs.take o++(v::r++xs.drop (o+(v::r).length)):=by
   have hol:o<xs.length:=by simp at hl;omega
   rw[List.take_add_one,List.getElem?_set_self hol,List.take_set_of_le (Nat.le_refl o),List.drop_set_of_lt (by omega)];simp only[Option.toList_some,List.append_assoc,List.cons_append,List.nil_append,List.length_cons];rw[show o+1+r.length=o+(r.length+1) by omega]
  rw[he] at h2
  exact h2
theorem flat_take{l:List α}(hs:∀x∈l,(f x).length=sz)(i:Nat):(l.flatMap f).take (i*sz)=(l.take i).flatMap f:=by
 induction l generalizing i with
 |nil=>simp
 |cons a l ih=>
  have ha:(f a).length=sz:=hs a (by simp)
  cases i with
  |zero=>simp
  |succ i=>
   rw[List.flatMap_cons,List.take_succ_cons,List.flatMap_cons,List.take_append,ha,List.take_of_length_le (by rw[ha,Nat.add_mul];omega),<-ih (fun x hx=>hs x (by simp[hx])) i]
   congr 2
   rw[Nat.add_mul];omega
theorem flat_drop{l:List α}(hs:∀x∈l,(f x).length=sz)(i:Nat):(l.flatMap f).drop (i*sz)=(l.drop i).flatMap f:=by
 induction l generalizing i with
 |nil=>simp
 |cons a l ih=>
  have ha:(f a).length=sz:=hs a (by simp)
  cases i with
  |zero=>simp
  |succ i=>
   rw[List.flatMap_cons,List.drop_succ_cons,List.drop_append,ha,List.drop_of_length_le (by rw[ha,Nat.add_mul];omega),List.nil_append,<-ih (fun x hx=>hs x (by simp[hx])) i]
   congr 1
   rw[Nat.add_mul];omega
theorem Ox.setn{e:TypeId}{lo hi:Nat}{w:World}{g n cap:Nat}{l:List α}(h:Ox f sz e lo hi w (.slice (some ⟨g,0,none⟩) n cap) l)(hs:∀x,(f x).length=sz){i:Nat}(x:α)(hil:i<l.length)(q:Nat)(hq:q=i*sz)(vs:List Value)(hv:vs=f x):Ox f sz e lo hi (w.setCells g q vs) (.slice (some ⟨g,0,none⟩) n cap) (l.set i x):=by
 subst hq hv
 obtain⟨a0,c0,hv⟩:=h.1.form
 simp only[Value.slice.injEq] at hv
 obtain⟨_,rfl,_⟩:=hv
 refine⟨?_,h.2⟩
 have hfl:=flat_length (f:=f) (sz:=sz) (l:=l) (fun x _=>hs x)
 have hle:i*sz+(f x).length<=(l.flatMap f).length:=by
  rw[hfl,hs x]
  have:(i+1)*sz<=l.length*sz:=Nat.mul_le_mul_right _ (by omega)
  rw[Nat.add_mul] at this
  omega
 have h1:=sets_stored (w:=w) (f x) (i*sz) (l.flatMap f) w h.1 hle
 have he:(l.flatMap f).take (i*sz)++(f x++(l.flatMap f).drop (i*sz+(f x).length))=(l.set i x).flatMap f:=by
  rw[hs x,show i*sz+sz=(i+1)*sz by rw[Nat.add_mul];omega,flat_take (fun x _=>hs x),flat_drop (fun x _=>hs x),List.set_eq_take_append_cons_drop,if_pos hil,List.flatMap_append,List.flatMap_cons]
 rw[he] at h1
 unfold Ow;rw[List.length_set];exact h1
theorem Ox.at{e:TypeId}{lo hi:Nat}{w:World}{g n cap:Nat}{l:List α}(h:Ox f sz e lo hi w (.slice (some ⟨g,0,none⟩) n cap) l)(hs:∀x∈l,(f x).length=sz){i:Nat}{x:α}(hxi:l[i]? =some x){j:Nat}{u:Value}(hu:(f x)[j]? =some u)(q:Nat)(hq:q=i*sz+j):w.cell? ⟨g,q,none⟩=some u/\w.frozen? ⟨g,q,none⟩=false:=by
 subst hq
 obtain⟨a0,c0,hv⟩:=h.1.form
 simp only[Value.slice.injEq] at hv
 obtain⟨_,rfl,_⟩:=hv
 have h1:=flat_at hs hxi hu;have hlt:i*sz+j<l.length*sz:=by have:=(List.getElem?_eq_some_iff.1 h1).1;rwa [flat_length hs] at this
 exact⟨by rw[World.ownsRow.cellAt h.1 _ hlt,h1],World.ownsRow.frozenAt h.1 _⟩
end
end Go.Proofs.YtpbepnpnpopmfaaGreat
