/- What the reading of a board, as an argument, says. -/
import Derived.Test.YtpbepnpnpopmfaaGreatBV
import Derived.Test.YtpbepnpnpopmfaaGreatBOw
import Derived.Deep.Slices
import Derived.Deep.Fields
import Derived.OpenShut
import Derived.WideShapes
open Go.RowKit Go.Proofs.YtpbepnpnpopmfaaGreat
set_option maxRecDepth 100000
set_option maxHeartbeats 4000000
namespace Go.Proofs.YtpbepnpnpopmfaaGreat
open Plain Go.ChangeShapes Go.WideShapes Go.ChangeAt Go.WideMaps Go.WideElems
set_option linter.unusedVariables false
set_option linter.unusedSimpArgs false

theorem wf_I'{a:Int}(h:(Lit.int .i64 a).wf=true):Plain.I a:=by
 unfold Plain.I
 simpa [Lit.wf,IntKind.min,IntKind.max,IntKind.signed,IntKind.bits] using h
theorem cut_at{cs:List Value}{c o j:Nat}{L:List Value}(h:List.take c (List.drop o cs)=L)(hj:j<c):cs[o+j]? =L[j]? :=by
 rw[<-h,List.getElem?_take_of_lt hj,List.getElem?_drop]
theorem eq_of_at{cs ds:List Value}(hl:cs.length=ds.length)(h:∀i,i<ds.length->cs[i]? =ds[i]?):cs=ds:=by
 refine List.ext_getElem? (fun i=> ?_);rcases Nat.lt_or_ge i ds.length with hi|hi
 ·exact h i hi
 rw[List.getElem?_eq_none hi,List.getElem?_eq_none (by omega)]
theorem choose_rows{α:Type}{Pr:Nat->α->Prop}:∀n:Nat,(∀i,i<n->∃r,Pr i r)->∃rows:List α,rows.length=n/\∀i r,rows[i]? =some r->Pr i r
 |0,_=>⟨[],rfl,fun i r h=>by simp at h⟩
 |n+1,h=>by
  obtain⟨rows,hl,hr⟩:=choose_rows n (fun i hi=>h i (by omega))
  obtain⟨r,hr2⟩:=h n (by omega)
  refine⟨rows++[r],by simp[hl],fun i x hx=> ?_⟩
  rcases Nat.lt_or_ge i n with h1|h1
  ·rw[List.getElem?_append_left (by omega)] at hx
   exact hr i x hx
  have hi:i=n:=by
   have:=(List.getElem?_eq_some_iff.1 hx).1
   simp at this
   omega
  subst hi;rw[List.getElem?_append_right (by omega)] at hx
  simp[hl] at hx
  subst hx;exact hr2
theorem lt_of_at{w:World}{p:Addr}{v:Value}(h:w.cell? p=some v):p.block<w.heap.size:=by
 rcases Nat.lt_or_ge p.block w.heap.size with h1|h1
 ·exact h1
 have h2:w.heap[p.block]? =none:=Array.getElem?_eq_none h1;simp[World.cell?,h2] at h
section
variable {H:Type} {enc:TypeId×Value->H} {w:World} {base:Nat} {spare:Nat->Bool} {held:Bool}
theorem sfld{fuel:Nat}{t:TypeId}{cs:List Value}{x:DataW H×List MemPlace}{fs:Array Go.Field}(ht:Tryz.prog.underlying t=some (.struct fs))(h:DataW.trod enc Tryz.prog w base spare held fuel t cs=some x):cs.length=Tryz.prog.cellsOf t/\∃m,∀(i:Nat) (f:Go.Field),fs[i]? =some f->∃y,DataW.trod enc Tryz.prog w base spare held m f.type (List.take (Tryz.prog.cellsOf f.type) (List.drop f.offset cs))=some y:=by
 obtain⟨xs,n,_,_,hl,hx,hf⟩:=DataW.trod_struct ht h
 refine⟨hl,n,fun i f hi=> ?_⟩
 have hlt:i<fs.size:=(Array.getElem?_eq_some_iff.1 hi).1
 exact⟨xs[i]'(by omega),by rw[hf i f hi,List.getElem?_eq_getElem]⟩
theorem afld{fuel:Nat}{t e:TypeId}{cs:List Value}{x:DataW H×List MemPlace}{n k:Nat}(ht:Tryz.prog.underlying t=some (.array n e))(hk:Tryz.prog.cellsOf e=k)(h:DataW.trod enc Tryz.prog w base spare held fuel t cs=some x):∃m,∀i,i<n->∃y,DataW.trod enc Tryz.prog w base spare held m e (List.take (Tryz.prog.cellsOf e) (List.drop (i*k) cs))=some y:=by
 subst hk
 obtain⟨xs,m,_,_,hl,hx,hf⟩:=DataW.trod_array ht h
 exact⟨m,fun i hi=>⟨xs[i]'(by omega),by rw[hf i hi,List.getElem?_eq_getElem]⟩⟩
theorem int_at{m o T:Nat}{cs:List Value}(ht:Tryz.prog.underlying T=some (.int .i64))(hc:Tryz.prog.cellsOf T=1)(h:∃y,DataW.trod enc Tryz.prog w base spare held m T (List.take (Tryz.prog.cellsOf T) (List.drop o cs))=some y):∃z,cs[o]? =some (.int .i64 z)/\Plain.I z:=by
 obtain⟨y,h⟩:=h
 obtain⟨z,e,_,hw⟩:=DataW.trod_int ht h
 rw[hc] at e
 exact⟨z,by have:=cut_at e (show 0<1 by decide);simpa using this,wf_I' hw⟩
theorem bool_at{m o T:Nat}{cs:List Value}(ht:Tryz.prog.underlying T=some .bool)(hc:Tryz.prog.cellsOf T=1)(h:∃y,DataW.trod enc Tryz.prog w base spare held m T (List.take (Tryz.prog.cellsOf T) (List.drop o cs))=some y):∃z,cs[o]? =some (.bool z):=by
 obtain⟨y,h⟩:=h
 obtain⟨z,e,_⟩:=DataW.trod_bool ht h
 rw[hc] at e
 exact⟨z,by have:=cut_at e (show 0<1 by decide);simpa using this⟩
theorem rows_at{α:Type}{f:α->List Value}{sz:Nat}{Q:α->Prop}{T E m o:Nat}{cs:List Value}(ht:Tryz.prog.underlying T=some (.slice E))(hcT:Tryz.prog.cellsOf T=1)(hE:Tryz.prog.cellsOf E=sz)(hp:0<sz)(hlen:∀a,(f a).length=sz)
  (hr:∀m' cs' y,DataW.trod enc Tryz.prog w base spare held m' E cs' =some y->∃a,cs' =f a/\Q a)
  (h:∃y,DataW.trod enc Tryz.prog w base spare held m T (List.take (Tryz.prog.cellsOf T) (List.drop o cs))=some y):∃(s:Sl) (l:List α),cs[o]? =some s.v/\Rw f sz w s.v l/\∀a∈l,Q a:=by
 obtain⟨y,h⟩:=h
 rcases Go.Deep.open_slice ht h with⟨hcs,_⟩|⟨x,len,cap,k,n,DD,Pl,hcs,_,hl,hm,hmm,_,hi⟩
 ·rw[hcT] at hcs
  exact⟨⟨none,0,0⟩,[],by have:=cut_at hcs (show 0<1 by decide);simpa [Sl.v] using this,Rw.nil _,fun a ha=>by cases ha⟩
 rw[hcT] at hcs
 have hat:cs[o]? =some (Sl.v ⟨some x,len,cap⟩):=by have:=cut_at hcs (show 0<1 by decide);simpa [Sl.v] using this
 have hlm:len<=k:=by rw[hmm];split<;>omega
 have key:∀i,i<len->∃a:α,Q a/\∀j u,(f a)[j]? =some u->w.cell? (x.add (i*sz+j))=some u:=by
  intro i hil
  obtain⟨cs',hc,ht'⟩:=hi i (by omega)
  rw[hE] at hc
  obtain⟨a,rfl,h1⟩:=hr _ _ _ ht'
  obtain⟨_,hcl,hat⟩:=World.cells?_some hc
  refine⟨a,h1,fun j u hj=> ?_⟩
  have hj14:j<sz:=by rw[<-hlen a];exact(List.getElem?_eq_some_iff.1 hj).1
  rw[<-Go.Deep.add_add,hat j hj14,hj]
 obtain⟨l,hrl,hr'⟩:=choose_rows len key
 refine⟨⟨some x,len,cap⟩,l,hat,?_,fun a ha=> ?_⟩
 ·rcases Nat.eq_zero_or_pos len with h0|h0
  ·subst h0
   exact .inl ⟨List.eq_nil_of_length_eq_zero hrl,.inr ⟨_,_,rfl⟩⟩
  have hne:l≠[]:=by intro e;rw[e] at hrl;simp at hrl;omega
  have h00:l[0]? =some (l[0]'(by omega)):=List.getElem?_eq_getElem (by omega);have hf0:(f (l[0]'(by omega)))[0]? =some ((f (l[0]'(by omega)))[0]'(by rw[hlen];exact hp)):=List.getElem?_eq_getElem _;have hc0:=(hr' 0 _ h00).2 0 _ hf0
  obtain⟨b,off,spot⟩:=x
  have hspot:spot=none:=by simpa [Addr.add] using World.cell?_spot hc0
  subst hspot;have hlt:b<w.heap.size:=by simpa [Addr.add] using lt_of_at hc0
  refine .inr ⟨hne,by omega,b,off,cap,by rw[hrl];rfl,hlt,fun i r hir j u hj=> ?_⟩
  have:=(hr' i r hir).2 j u hj
  rwa [Go.WideShapes.add_plain] at this
 obtain⟨i,hi⟩:=List.getElem?_of_mem ha
 exact(hr' i a hi).1
theorem int_cs{m:Nat}{cs:List Value}{x:DataW H×List MemPlace}(h:DataW.trod enc Tryz.prog w base spare held m 3 cs=some x):∃a:Int,cs=ic a/\Plain.I a:=by
 obtain⟨z,e,_,hw⟩:=DataW.trod_int Tryz.underlying3 h
 exact⟨z,e,wf_I' hw⟩
theorem ob_cs{m:Nat}{cs:List Value}{x:DataW H×List MemPlace}(h:DataW.trod enc Tryz.prog w base spare held m 47 cs=some x):∃a:Ob,cs=oc a/\a.I:=by
 obtain⟨hl,m,hf⟩:=sfld Tryz.underlying47 h
 obtain⟨z0,e0,i0⟩:=int_at Tryz.underlying3 (by kernel_rfl) (hf 0 _ rfl)
 obtain⟨z1,e1,i1⟩:=int_at Tryz.underlying3 (by kernel_rfl) (hf 1 _ rfl)
 obtain⟨z2,e2,i2⟩:=int_at Tryz.underlying3 (by kernel_rfl) (hf 2 _ rfl)
 obtain⟨z3,e3,i3⟩:=int_at Tryz.underlying3 (by kernel_rfl) (hf 3 _ rfl)
 obtain⟨z4,e4,i4⟩:=int_at Tryz.underlying3 (by kernel_rfl) (hf 4 _ rfl)
 obtain⟨z5,e5,i5⟩:=int_at Tryz.underlying3 (by kernel_rfl) (hf 5 _ rfl)
 obtain⟨z6,e6,i6⟩:=int_at Tryz.underlying3 (by kernel_rfl) (hf 6 _ rfl)
 obtain⟨z7,e7,i7⟩:=int_at Tryz.underlying3 (by kernel_rfl) (hf 7 _ rfl)
 obtain⟨z8,e8,i8⟩:=int_at Tryz.underlying3 (by kernel_rfl) (hf 8 _ rfl)
 obtain⟨z9,e9⟩:=bool_at Tryz.underlying4 (by kernel_rfl) (hf 9 _ rfl)
 obtain⟨z10,e10⟩:=bool_at Tryz.underlying4 (by kernel_rfl) (hf 10 _ rfl)
 obtain⟨z11,e11⟩:=bool_at Tryz.underlying4 (by kernel_rfl) (hf 11 _ rfl)
 exact⟨⟨z0,z1,z2,z3,z4,z5,z6,z7,z8,z9,z10,z11⟩,eq_of_at (hl.trans (by kernel_rfl)) (fun i hi=>by
  match i,hi with
  |0,_=>exact e0
  |1,_=>exact e1
  |2,_=>exact e2
  |3,_=>exact e3
  |4,_=>exact e4
  |5,_=>exact e5
  |6,_=>exact e6
  |7,_=>exact e7
  |8,_=>exact e8
  |9,_=>exact e9
  |10,_=>exact e10
  |11,_=>exact e11
  |(q+12),h=>exact absurd (show q+12<12 from h) (by omega)),⟨i0,i1,i2,i3,i4,i5,i6,i7,i8⟩⟩
theorem tg_cs{m:Nat}{cs:List Value}{x:DataW H×List MemPlace}(h:DataW.trod enc Tryz.prog w base spare held m 98 cs=some x):∃a:Tg,cs=tc a/\True:=by
 obtain⟨hl,m,hf⟩:=sfld Tryz.underlying98 h
 obtain⟨z0,e0,i0⟩:=int_at Tryz.underlying3 (by kernel_rfl) (hf 0 _ rfl)
 obtain⟨z1,e1,i1⟩:=int_at Tryz.underlying3 (by kernel_rfl) (hf 1 _ rfl)
 exact⟨⟨z0,z1⟩,eq_of_at (hl.trans (by kernel_rfl)) (fun i hi=>by
  match i,hi with
  |0,_=>exact e0
  |1,_=>exact e1
  |(q+2),h=>exact absurd (show q+2<2 from h) (by omega)),trivial⟩
theorem bk_cs{m:Nat}{cs:List Value}{x:DataW H×List MemPlace}(h:DataW.trod enc Tryz.prog w base spare held m 89 cs=some x):∃a:Bk,cs=kc a/\Plain.I a.at'/\Plain.I a.bl:=by
 obtain⟨hl,m,hf⟩:=sfld Tryz.underlying89 h
 obtain⟨z0,e0,i0⟩:=int_at Tryz.underlying3 (by kernel_rfl) (hf 0 _ rfl)
 obtain⟨z1,e1,i1⟩:=int_at Tryz.underlying3 (by kernel_rfl) (hf 1 _ rfl)
 exact⟨⟨z0,z1⟩,eq_of_at (hl.trans (by kernel_rfl)) (fun i hi=>by
  match i,hi with
  |0,_=>exact e0
  |1,_=>exact e1
  |(q+2),h=>exact absurd (show q+2<2 from h) (by omega)),i1,i0⟩
theorem it_cs{m:Nat}{cs:List Value}{x:DataW H×List MemPlace}(h:DataW.trod enc Tryz.prog w base spare held m 73 cs=some x):∃a:It×Sl,cs=itc a/\(Rw tc 2 w a.2.v a.1.tg/\Plain.I a.1.id/\Plain.I a.1.pl/\Plain.I a.1.cd):=by
 obtain⟨hl,m,hf⟩:=sfld Tryz.underlying73 h
 obtain⟨z0,e0,i0⟩:=int_at Tryz.underlying3 (by kernel_rfl) (hf 0 _ rfl)
 obtain⟨z1,e1,i1⟩:=int_at Tryz.underlying3 (by kernel_rfl) (hf 1 _ rfl)
 obtain⟨z2,e2,i2⟩:=int_at Tryz.underlying3 (by kernel_rfl) (hf 2 _ rfl)
 obtain⟨z3,e3,i3⟩:=int_at Tryz.underlying3 (by kernel_rfl) (hf 3 _ rfl)
 obtain⟨s4,l4,e4,r4,_⟩:=rows_at (f:=tc) (sz:=2) Tryz.underlying71 (by kernel_rfl) (by kernel_rfl) (by decide) (fun _=>rfl) (fun _ _ _ h=>tg_cs h) (hf 4 _ rfl)
 exact⟨(⟨z0,z1,z2,z3,l4⟩,s4),eq_of_at (hl.trans (by kernel_rfl)) (fun i hi=>by
  match i,hi with
  |0,_=>exact e0
  |1,_=>exact e1
  |2,_=>exact e2
  |3,_=>exact e3
  |4,_=>exact e4
  |(q+5),h=>exact absurd (show q+5<5 from h) (by omega)),r4,i1,i0,i2⟩
def sec(l h f g:Sl)(S:Se):List Value:=[.int .i64 S.li,.int .i64 S.p0,.int .i64 S.p1,.int .i64 S.p2,.int .i64 S.p3,l.v,h.v,f.v,g.v,.bool S.em,.bool S.py,.bool S.kp,.int .i64 S.mu,.int .i64 S.ac]
theorem se_cs{m:Nat}{cs:List Value}{x:DataW H×List MemPlace}(h:DataW.trod enc Tryz.prog w base spare held m 28 cs=some x):∃(l h f g:Sl) (S:Se),cs=sec l h f g S/\SeR w l h f g S/\∀z,∀i∈S.zs z,Plain.I i:=by
 obtain⟨hl,m,hf⟩:=sfld Tryz.underlying28 h
 obtain⟨z0,e0,i0⟩:=int_at Tryz.underlying3 (by kernel_rfl) (hf 0 _ rfl)
 obtain⟨y,hy⟩:=hf 1 _ rfl
 replace hy:DataW.trod enc Tryz.prog w base spare held m 25 (List.take (Tryz.prog.cellsOf 25) (List.drop 1 cs))=some y:=hy
 obtain⟨m2,hp⟩:=afld (k:=1) Tryz.underlying25 (by kernel_rfl) hy
 obtain⟨p0,f0,_⟩:=int_at Tryz.underlying3 (by kernel_rfl) (hp 0 (by decide))
 have e1:cs[1]? =some (.int .i64 p0):=by
  have c4:Tryz.prog.cellsOf 25=4:=by kernel_rfl
  exact(cut_at (cs:=cs) (c:=Tryz.prog.cellsOf 25) (o:=1) (j:=0) rfl (by rw[c4];decide)).trans f0
 obtain⟨p1,f1,_⟩:=int_at Tryz.underlying3 (by kernel_rfl) (hp 1 (by decide))
 have e2:cs[2]? =some (.int .i64 p1):=by
  have c4:Tryz.prog.cellsOf 25=4:=by kernel_rfl
  exact(cut_at (cs:=cs) (c:=Tryz.prog.cellsOf 25) (o:=1) (j:=1) rfl (by rw[c4];decide)).trans f1
 obtain⟨p2,f2,_⟩:=int_at Tryz.underlying3 (by kernel_rfl) (hp 2 (by decide))
 have e3:cs[3]? =some (.int .i64 p2):=by
  have c4:Tryz.prog.cellsOf 25=4:=by kernel_rfl
  exact(cut_at (cs:=cs) (c:=Tryz.prog.cellsOf 25) (o:=1) (j:=2) rfl (by rw[c4];decide)).trans f2
 obtain⟨p3,f3,_⟩:=int_at Tryz.underlying3 (by kernel_rfl) (hp 3 (by decide))
 have e4:cs[4]? =some (.int .i64 p3):=by
  have c4:Tryz.prog.cellsOf 25=4:=by kernel_rfl
  exact(cut_at (cs:=cs) (c:=Tryz.prog.cellsOf 25) (o:=1) (j:=3) rfl (by rw[c4];decide)).trans f3
 obtain⟨s0,l0,e5,r0,q0⟩:=rows_at (f:=ic) (sz:=1) Tryz.underlying26 (by kernel_rfl) (by kernel_rfl) (by decide) (fun _=>rfl) (fun _ _ _ h=>int_cs h) (hf 2 _ rfl)
 obtain⟨s1,l1,e6,r1,q1⟩:=rows_at (f:=ic) (sz:=1) Tryz.underlying26 (by kernel_rfl) (by kernel_rfl) (by decide) (fun _=>rfl) (fun _ _ _ h=>int_cs h) (hf 3 _ rfl)
 obtain⟨s2,l2,e7,r2,q2⟩:=rows_at (f:=ic) (sz:=1) Tryz.underlying26 (by kernel_rfl) (by kernel_rfl) (by decide) (fun _=>rfl) (fun _ _ _ h=>int_cs h) (hf 4 _ rfl)
 obtain⟨s3,l3,e8,r3,q3⟩:=rows_at (f:=ic) (sz:=1) Tryz.underlying26 (by kernel_rfl) (by kernel_rfl) (by decide) (fun _=>rfl) (fun _ _ _ h=>int_cs h) (hf 5 _ rfl)
 obtain⟨b0,e9⟩:=bool_at Tryz.underlying4 (by kernel_rfl) (hf 6 _ rfl)
 obtain⟨b1,e10⟩:=bool_at Tryz.underlying4 (by kernel_rfl) (hf 7 _ rfl)
 obtain⟨b2,e11⟩:=bool_at Tryz.underlying4 (by kernel_rfl) (hf 8 _ rfl)
 obtain⟨n0,e12,_⟩:=int_at Tryz.underlying3 (by kernel_rfl) (hf 9 _ rfl)
 obtain⟨n1,e13,_⟩:=int_at Tryz.underlying3 (by kernel_rfl) (hf 10 _ rfl)
 refine⟨s0,s1,s2,s3,⟨z0,p0,p1,p2,p3,l0,l1,l2,l3,b0,b1,b2,n0,n1⟩,eq_of_at (hl.trans (by kernel_rfl)) (fun i hi=>by
  match i,hi with
  |0,_=>exact e0
  |1,_=>exact e1
  |2,_=>exact e2
  |3,_=>exact e3
  |4,_=>exact e4
  |5,_=>exact e5
  |6,_=>exact e6
  |7,_=>exact e7
  |8,_=>exact e8
  |9,_=>exact e9
  |10,_=>exact e10
  |11,_=>exact e11
  |12,_=>exact e12
  |13,_=>exact e13
  |(q+14),h=>exact absurd (show q+14<14 from h) (by omega)),⟨r0,r1,r2,r3⟩,fun z i hi=> ?_⟩
 unfold Se.zs at hi
 split at hi
 ·exact q0 i hi
 split at hi
 ·exact q1 i hi
 split at hi
 ·exact q2 i hi
 exact q3 i hi
theorem it_rows{s:Sl}{l:List (It×Sl)}(r:Rw itc 5 w s.v l)(q:∀a∈l,Rw tc 2 w a.2.v a.1.tg/\Plain.I a.1.id/\Plain.I a.1.pl/\Plain.I a.1.cd):ItR w s.v (l.map Prod.fst)/\∀x∈l.map Prod.fst,Plain.I x.id/\Plain.I x.pl/\Plain.I x.cd:=
 ⟨⟨l,rfl,r,fun x hx=>(q x hx).1⟩,fun x hx=>by
  obtain⟨y,hy,rfl⟩:=List.mem_map.1 hx
  exact(q y hy).2⟩
theorem open_bd{r:Reach}{b0:Nat}{v:Value}{d:DataW H}{p:List MemPlace}(hv:Value.okWide Tryz.prog w r b0 34 v)(h:DataW.Trod enc Tryz.prog w base spare held 34 v d p):∃s B,v=bv s B/\BdR w s B/\B.I:=by
 obtain⟨cs0,rfl,hsz⟩:=okWide_struct Tryz.underlying34 hv
 obtain⟨fuel,hF⟩:=h
 obtain⟨hl,m,hf⟩:=sfld Tryz.underlying34 hF
 obtain⟨cs,hcs⟩:∃cs,cs=(Value.agg cs0).cells.toList:=⟨_,rfl⟩
 rw[<-hcs] at hl hf
 clear hF
 obtain⟨so,lo,e0,ro,qo⟩:=rows_at (f:=oc) (sz:=12) Tryz.underlying23 (by kernel_rfl) (by kernel_rfl) (by decide) (fun _=>rfl) (fun _ _ _ h=>ob_cs h) (hf 0 _ rfl)
 obtain⟨y,hy⟩:=hf 1 _ rfl
 replace hy:DataW.trod enc Tryz.prog w base spare held m 29 (List.take (Tryz.prog.cellsOf 29) (List.drop 1 cs))=some y:=hy
 obtain⟨m2,hp⟩:=afld (k:=14) Tryz.underlying29 (by kernel_rfl) hy
 have c:Tryz.prog.cellsOf 28=14:=by kernel_rfl
 have c2:Tryz.prog.cellsOf 29=28:=by kernel_rfl
 obtain⟨y0,hy0⟩:=hp 0 (by decide)
 obtain⟨a0,h0,f0,g0,S0,es0,rs0,qs0⟩:=se_cs hy0
 rw[c] at es0
 have e1:cs[1]? =(sec a0 h0 f0 g0 S0)[0]? :=(cut_at (cs:=cs) (c:=Tryz.prog.cellsOf 29) (o:=1) (j:=0) rfl (by rw[c2];decide)).trans (cut_at (o:=0) (j:=0) es0 (by decide));have e2:cs[2]? =(sec a0 h0 f0 g0 S0)[1]? :=(cut_at (cs:=cs) (c:=Tryz.prog.cellsOf 29) (o:=1) (j:=1) rfl (by rw[c2];decide)).trans (cut_at (o:=0) (j:=1) es0 (by decide));have e3:cs[3]? =(sec a0 h0 f0 g0 S0)[2]? :=(cut_at (cs:=cs) (c:=Tryz.prog.cellsOf 29) (o:=1) (j:=2) rfl (by rw[c2];decide)).trans (cut_at (o:=0) (j:=2) es0 (by decide));have e4:cs[4]? =(sec a0 h0 f0 g0 S0)[3]? :=(cut_at (cs:=cs) (c:=Tryz.prog.cellsOf 29) (o:=1) (j:=3) rfl (by rw[c2];decide)).trans (cut_at (o:=0) (j:=3) es0 (by decide));have e5:cs[5]? =(sec a0 h0 f0 g0 S0)[4]? :=(cut_at (cs:=cs) (c:=Tryz.prog.cellsOf 29) (o:=1) (j:=4) rfl (by rw[c2];decide)).trans (cut_at (o:=0) (j:=4) es0 (by decide));have e6:cs[6]? =(sec a0 h0 f0 g0 S0)[5]? :=(cut_at (cs:=cs) (c:=Tryz.prog.cellsOf 29) (o:=1) (j:=5) rfl (by rw[c2];decide)).trans (cut_at (o:=0) (j:=5) es0 (by decide));have e7:cs[7]? =(sec a0 h0 f0 g0 S0)[6]? :=(cut_at (cs:=cs) (c:=Tryz.prog.cellsOf 29) (o:=1) (j:=6) rfl (by rw[c2];decide)).trans (cut_at (o:=0) (j:=6) es0 (by decide));have e8:cs[8]? =(sec a0 h0 f0 g0 S0)[7]? :=(cut_at (cs:=cs) (c:=Tryz.prog.cellsOf 29) (o:=1) (j:=7) rfl (by rw[c2];decide)).trans (cut_at (o:=0) (j:=7) es0 (by decide));have e9:cs[9]? =(sec a0 h0 f0 g0 S0)[8]? :=(cut_at (cs:=cs) (c:=Tryz.prog.cellsOf 29) (o:=1) (j:=8) rfl (by rw[c2];decide)).trans (cut_at (o:=0) (j:=8) es0 (by decide));have e10:cs[10]? =(sec a0 h0 f0 g0 S0)[9]? :=(cut_at (cs:=cs) (c:=Tryz.prog.cellsOf 29) (o:=1) (j:=9) rfl (by rw[c2];decide)).trans (cut_at (o:=0) (j:=9) es0 (by decide));have e11:cs[11]? =(sec a0 h0 f0 g0 S0)[10]? :=(cut_at (cs:=cs) (c:=Tryz.prog.cellsOf 29) (o:=1) (j:=10) rfl (by rw[c2];decide)).trans (cut_at (o:=0) (j:=10) es0 (by decide));have e12:cs[12]? =(sec a0 h0 f0 g0 S0)[11]? :=(cut_at (cs:=cs) (c:=Tryz.prog.cellsOf 29) (o:=1) (j:=11) rfl (by rw[c2];decide)).trans (cut_at (o:=0) (j:=11) es0 (by decide));have e13:cs[13]? =(sec a0 h0 f0 g0 S0)[12]? :=(cut_at (cs:=cs) (c:=Tryz.prog.cellsOf 29) (o:=1) (j:=12) rfl (by rw[c2];decide)).trans (cut_at (o:=0) (j:=12) es0 (by decide));have e14:cs[14]? =(sec a0 h0 f0 g0 S0)[13]? :=(cut_at (cs:=cs) (c:=Tryz.prog.cellsOf 29) (o:=1) (j:=13) rfl (by rw[c2];decide)).trans (cut_at (o:=0) (j:=13) es0 (by decide))
 obtain⟨y1,hy1⟩:=hp 1 (by decide)
 obtain⟨a1,h1,f1,g1,S1,es1,rs1,qs1⟩:=se_cs hy1
 rw[c] at es1
 have e15:cs[15]? =(sec a1 h1 f1 g1 S1)[0]? :=(cut_at (cs:=cs) (c:=Tryz.prog.cellsOf 29) (o:=1) (j:=14) rfl (by rw[c2];decide)).trans (cut_at (o:=14) (j:=0) es1 (by decide));have e16:cs[16]? =(sec a1 h1 f1 g1 S1)[1]? :=(cut_at (cs:=cs) (c:=Tryz.prog.cellsOf 29) (o:=1) (j:=15) rfl (by rw[c2];decide)).trans (cut_at (o:=14) (j:=1) es1 (by decide));have e17:cs[17]? =(sec a1 h1 f1 g1 S1)[2]? :=(cut_at (cs:=cs) (c:=Tryz.prog.cellsOf 29) (o:=1) (j:=16) rfl (by rw[c2];decide)).trans (cut_at (o:=14) (j:=2) es1 (by decide));have e18:cs[18]? =(sec a1 h1 f1 g1 S1)[3]? :=(cut_at (cs:=cs) (c:=Tryz.prog.cellsOf 29) (o:=1) (j:=17) rfl (by rw[c2];decide)).trans (cut_at (o:=14) (j:=3) es1 (by decide));have e19:cs[19]? =(sec a1 h1 f1 g1 S1)[4]? :=(cut_at (cs:=cs) (c:=Tryz.prog.cellsOf 29) (o:=1) (j:=18) rfl (by rw[c2];decide)).trans (cut_at (o:=14) (j:=4) es1 (by decide));have e20:cs[20]? =(sec a1 h1 f1 g1 S1)[5]? :=(cut_at (cs:=cs) (c:=Tryz.prog.cellsOf 29) (o:=1) (j:=19) rfl (by rw[c2];decide)).trans (cut_at (o:=14) (j:=5) es1 (by decide));have e21:cs[21]? =(sec a1 h1 f1 g1 S1)[6]? :=(cut_at (cs:=cs) (c:=Tryz.prog.cellsOf 29) (o:=1) (j:=20) rfl (by rw[c2];decide)).trans (cut_at (o:=14) (j:=6) es1 (by decide));have e22:cs[22]? =(sec a1 h1 f1 g1 S1)[7]? :=(cut_at (cs:=cs) (c:=Tryz.prog.cellsOf 29) (o:=1) (j:=21) rfl (by rw[c2];decide)).trans (cut_at (o:=14) (j:=7) es1 (by decide));have e23:cs[23]? =(sec a1 h1 f1 g1 S1)[8]? :=(cut_at (cs:=cs) (c:=Tryz.prog.cellsOf 29) (o:=1) (j:=22) rfl (by rw[c2];decide)).trans (cut_at (o:=14) (j:=8) es1 (by decide));have e24:cs[24]? =(sec a1 h1 f1 g1 S1)[9]? :=(cut_at (cs:=cs) (c:=Tryz.prog.cellsOf 29) (o:=1) (j:=23) rfl (by rw[c2];decide)).trans (cut_at (o:=14) (j:=9) es1 (by decide));have e25:cs[25]? =(sec a1 h1 f1 g1 S1)[10]? :=(cut_at (cs:=cs) (c:=Tryz.prog.cellsOf 29) (o:=1) (j:=24) rfl (by rw[c2];decide)).trans (cut_at (o:=14) (j:=10) es1 (by decide));have e26:cs[26]? =(sec a1 h1 f1 g1 S1)[11]? :=(cut_at (cs:=cs) (c:=Tryz.prog.cellsOf 29) (o:=1) (j:=25) rfl (by rw[c2];decide)).trans (cut_at (o:=14) (j:=11) es1 (by decide));have e27:cs[27]? =(sec a1 h1 f1 g1 S1)[12]? :=(cut_at (cs:=cs) (c:=Tryz.prog.cellsOf 29) (o:=1) (j:=26) rfl (by rw[c2];decide)).trans (cut_at (o:=14) (j:=12) es1 (by decide));have e28:cs[28]? =(sec a1 h1 f1 g1 S1)[13]? :=(cut_at (cs:=cs) (c:=Tryz.prog.cellsOf 29) (o:=1) (j:=27) rfl (by rw[c2];decide)).trans (cut_at (o:=14) (j:=13) es1 (by decide))
 obtain⟨st,lt,e29,rt,qt⟩:=rows_at (f:=itc) (sz:=5) Tryz.underlying30 (by kernel_rfl) (by kernel_rfl) (by decide) (fun _=>rfl) (fun _ _ _ h=>it_cs h) (hf 2 _ rfl)
 obtain⟨su,lu,e30,ru,qu⟩:=rows_at (f:=itc) (sz:=5) Tryz.underlying30 (by kernel_rfl) (by kernel_rfl) (by decide) (fun _=>rfl) (fun _ _ _ h=>it_cs h) (hf 3 _ rfl)
 obtain⟨sa,la,e31,ra,qa⟩:=rows_at (f:=ic) (sz:=1) Tryz.underlying26 (by kernel_rfl) (by kernel_rfl) (by decide) (fun _=>rfl) (fun _ _ _ h=>int_cs h) (hf 4 _ rfl)
 obtain⟨sb,lb,e32,rb,qb⟩:=rows_at (f:=kc) (sz:=2) Tryz.underlying31 (by kernel_rfl) (by kernel_rfl) (by decide) (fun _=>rfl) (fun _ _ _ h=>bk_cs h) (hf 5 _ rfl)
 obtain⟨n0,e33,_⟩:=int_at Tryz.underlying3 (by kernel_rfl) (hf 6 _ rfl)
 obtain⟨n1,e34,_⟩:=int_at Tryz.underlying3 (by kernel_rfl) (hf 7 _ rfl)
 obtain⟨n2,e35,_⟩:=int_at Tryz.underlying32 (by kernel_rfl) (hf 8 _ rfl)
 obtain⟨n3,e36,_⟩:=int_at Tryz.underlying3 (by kernel_rfl) (hf 9 _ rfl)
 obtain⟨n4,e37,_⟩:=int_at Tryz.underlying3 (by kernel_rfl) (hf 10 _ rfl)
 obtain⟨rt,qt'⟩:=it_rows rt qt
 obtain⟨ru,_⟩:=it_rows ru qu
 refine⟨⟨so,a0,h0,f0,g0,a1,h1,f1,g1,st,su,sa,sb⟩,⟨lo,S0,S1,lt.map Prod.fst,lu.map Prod.fst,la,lb,n0,n1,n2,n3,n4⟩,?_,⟨ro,rs0,rs1,rt,ru,ra,rb⟩,⟨fun p z=> ?_,qo,qt',qa,qb⟩⟩
 ·have e:cs=(bcells ⟨so,a0,h0,f0,g0,a1,h1,f1,g1,st,su,sa,sb⟩ ⟨lo,S0,S1,lt.map Prod.fst,lu.map Prod.fst,la,lb,n0,n1,n2,n3,n4⟩).toList:=eq_of_at (hl.trans (by kernel_rfl)) (fun i hi=>by
   match i,hi with
   |0,_=>exact e0
   |1,_=>exact e1
   |2,_=>exact e2
   |3,_=>exact e3
   |4,_=>exact e4
   |5,_=>exact e5
   |6,_=>exact e6
   |7,_=>exact e7
   |8,_=>exact e8
   |9,_=>exact e9
   |10,_=>exact e10
   |11,_=>exact e11
   |12,_=>exact e12
   |13,_=>exact e13
   |14,_=>exact e14
   |15,_=>exact e15
   |16,_=>exact e16
   |17,_=>exact e17
   |18,_=>exact e18
   |19,_=>exact e19
   |20,_=>exact e20
   |21,_=>exact e21
   |22,_=>exact e22
   |23,_=>exact e23
   |24,_=>exact e24
   |25,_=>exact e25
   |26,_=>exact e26
   |27,_=>exact e27
   |28,_=>exact e28
   |29,_=>exact e29
   |30,_=>exact e30
   |31,_=>exact e31
   |32,_=>exact e32
   |33,_=>exact e33
   |34,_=>exact e34
   |35,_=>exact e35
   |36,_=>exact e36
   |37,_=>exact e37
   |(q+38),h=>exact absurd (show q+38<38 from h) (by omega))
  unfold bv;rw[<-show(bcells _ _).toList.toArray=bcells _ _ from rfl,<-e,hcs]
  rfl
 unfold Bd.seat
 split
 ·exact qs0 z
 exact qs1 z
theorem bd_cs{m:Nat}{cs:List Value}{x:DataW H×List MemPlace}(h:DataW.trod enc Tryz.prog w base spare held m 34 cs=some x):∃a:Bs×Bd,cs=(bcells a.1 a.2).toList/\(BdR w a.1 a.2/\a.2.I):=by
 obtain⟨hl,m,hf⟩:=sfld Tryz.underlying34 h
 obtain⟨so,lo,e0,ro,qo⟩:=rows_at (f:=oc) (sz:=12) Tryz.underlying23 (by kernel_rfl) (by kernel_rfl) (by decide) (fun _=>rfl) (fun _ _ _ h=>ob_cs h) (hf 0 _ rfl)
 obtain⟨y,hy⟩:=hf 1 _ rfl
 replace hy:DataW.trod enc Tryz.prog w base spare held m 29 (List.take (Tryz.prog.cellsOf 29) (List.drop 1 cs))=some y:=hy
 obtain⟨m2,hp⟩:=afld (k:=14) Tryz.underlying29 (by kernel_rfl) hy
 have c:Tryz.prog.cellsOf 28=14:=by kernel_rfl
 have c2:Tryz.prog.cellsOf 29=28:=by kernel_rfl
 obtain⟨y0,hy0⟩:=hp 0 (by decide)
 obtain⟨a0,h0,f0,g0,S0,es0,rs0,qs0⟩:=se_cs hy0
 rw[c] at es0
 have e1:cs[1]? =(sec a0 h0 f0 g0 S0)[0]? :=(cut_at (cs:=cs) (c:=Tryz.prog.cellsOf 29) (o:=1) (j:=0) rfl (by rw[c2];decide)).trans (cut_at (o:=0) (j:=0) es0 (by decide));have e2:cs[2]? =(sec a0 h0 f0 g0 S0)[1]? :=(cut_at (cs:=cs) (c:=Tryz.prog.cellsOf 29) (o:=1) (j:=1) rfl (by rw[c2];decide)).trans (cut_at (o:=0) (j:=1) es0 (by decide));have e3:cs[3]? =(sec a0 h0 f0 g0 S0)[2]? :=(cut_at (cs:=cs) (c:=Tryz.prog.cellsOf 29) (o:=1) (j:=2) rfl (by rw[c2];decide)).trans (cut_at (o:=0) (j:=2) es0 (by decide));have e4:cs[4]? =(sec a0 h0 f0 g0 S0)[3]? :=(cut_at (cs:=cs) (c:=Tryz.prog.cellsOf 29) (o:=1) (j:=3) rfl (by rw[c2];decide)).trans (cut_at (o:=0) (j:=3) es0 (by decide));have e5:cs[5]? =(sec a0 h0 f0 g0 S0)[4]? :=(cut_at (cs:=cs) (c:=Tryz.prog.cellsOf 29) (o:=1) (j:=4) rfl (by rw[c2];decide)).trans (cut_at (o:=0) (j:=4) es0 (by decide));have e6:cs[6]? =(sec a0 h0 f0 g0 S0)[5]? :=(cut_at (cs:=cs) (c:=Tryz.prog.cellsOf 29) (o:=1) (j:=5) rfl (by rw[c2];decide)).trans (cut_at (o:=0) (j:=5) es0 (by decide));have e7:cs[7]? =(sec a0 h0 f0 g0 S0)[6]? :=(cut_at (cs:=cs) (c:=Tryz.prog.cellsOf 29) (o:=1) (j:=6) rfl (by rw[c2];decide)).trans (cut_at (o:=0) (j:=6) es0 (by decide));have e8:cs[8]? =(sec a0 h0 f0 g0 S0)[7]? :=(cut_at (cs:=cs) (c:=Tryz.prog.cellsOf 29) (o:=1) (j:=7) rfl (by rw[c2];decide)).trans (cut_at (o:=0) (j:=7) es0 (by decide));have e9:cs[9]? =(sec a0 h0 f0 g0 S0)[8]? :=(cut_at (cs:=cs) (c:=Tryz.prog.cellsOf 29) (o:=1) (j:=8) rfl (by rw[c2];decide)).trans (cut_at (o:=0) (j:=8) es0 (by decide));have e10:cs[10]? =(sec a0 h0 f0 g0 S0)[9]? :=(cut_at (cs:=cs) (c:=Tryz.prog.cellsOf 29) (o:=1) (j:=9) rfl (by rw[c2];decide)).trans (cut_at (o:=0) (j:=9) es0 (by decide));have e11:cs[11]? =(sec a0 h0 f0 g0 S0)[10]? :=(cut_at (cs:=cs) (c:=Tryz.prog.cellsOf 29) (o:=1) (j:=10) rfl (by rw[c2];decide)).trans (cut_at (o:=0) (j:=10) es0 (by decide));have e12:cs[12]? =(sec a0 h0 f0 g0 S0)[11]? :=(cut_at (cs:=cs) (c:=Tryz.prog.cellsOf 29) (o:=1) (j:=11) rfl (by rw[c2];decide)).trans (cut_at (o:=0) (j:=11) es0 (by decide));have e13:cs[13]? =(sec a0 h0 f0 g0 S0)[12]? :=(cut_at (cs:=cs) (c:=Tryz.prog.cellsOf 29) (o:=1) (j:=12) rfl (by rw[c2];decide)).trans (cut_at (o:=0) (j:=12) es0 (by decide));have e14:cs[14]? =(sec a0 h0 f0 g0 S0)[13]? :=(cut_at (cs:=cs) (c:=Tryz.prog.cellsOf 29) (o:=1) (j:=13) rfl (by rw[c2];decide)).trans (cut_at (o:=0) (j:=13) es0 (by decide))
 obtain⟨y1,hy1⟩:=hp 1 (by decide)
 obtain⟨a1,h1,f1,g1,S1,es1,rs1,qs1⟩:=se_cs hy1
 rw[c] at es1
 have e15:cs[15]? =(sec a1 h1 f1 g1 S1)[0]? :=(cut_at (cs:=cs) (c:=Tryz.prog.cellsOf 29) (o:=1) (j:=14) rfl (by rw[c2];decide)).trans (cut_at (o:=14) (j:=0) es1 (by decide));have e16:cs[16]? =(sec a1 h1 f1 g1 S1)[1]? :=(cut_at (cs:=cs) (c:=Tryz.prog.cellsOf 29) (o:=1) (j:=15) rfl (by rw[c2];decide)).trans (cut_at (o:=14) (j:=1) es1 (by decide));have e17:cs[17]? =(sec a1 h1 f1 g1 S1)[2]? :=(cut_at (cs:=cs) (c:=Tryz.prog.cellsOf 29) (o:=1) (j:=16) rfl (by rw[c2];decide)).trans (cut_at (o:=14) (j:=2) es1 (by decide));have e18:cs[18]? =(sec a1 h1 f1 g1 S1)[3]? :=(cut_at (cs:=cs) (c:=Tryz.prog.cellsOf 29) (o:=1) (j:=17) rfl (by rw[c2];decide)).trans (cut_at (o:=14) (j:=3) es1 (by decide));have e19:cs[19]? =(sec a1 h1 f1 g1 S1)[4]? :=(cut_at (cs:=cs) (c:=Tryz.prog.cellsOf 29) (o:=1) (j:=18) rfl (by rw[c2];decide)).trans (cut_at (o:=14) (j:=4) es1 (by decide));have e20:cs[20]? =(sec a1 h1 f1 g1 S1)[5]? :=(cut_at (cs:=cs) (c:=Tryz.prog.cellsOf 29) (o:=1) (j:=19) rfl (by rw[c2];decide)).trans (cut_at (o:=14) (j:=5) es1 (by decide));have e21:cs[21]? =(sec a1 h1 f1 g1 S1)[6]? :=(cut_at (cs:=cs) (c:=Tryz.prog.cellsOf 29) (o:=1) (j:=20) rfl (by rw[c2];decide)).trans (cut_at (o:=14) (j:=6) es1 (by decide));have e22:cs[22]? =(sec a1 h1 f1 g1 S1)[7]? :=(cut_at (cs:=cs) (c:=Tryz.prog.cellsOf 29) (o:=1) (j:=21) rfl (by rw[c2];decide)).trans (cut_at (o:=14) (j:=7) es1 (by decide));have e23:cs[23]? =(sec a1 h1 f1 g1 S1)[8]? :=(cut_at (cs:=cs) (c:=Tryz.prog.cellsOf 29) (o:=1) (j:=22) rfl (by rw[c2];decide)).trans (cut_at (o:=14) (j:=8) es1 (by decide));have e24:cs[24]? =(sec a1 h1 f1 g1 S1)[9]? :=(cut_at (cs:=cs) (c:=Tryz.prog.cellsOf 29) (o:=1) (j:=23) rfl (by rw[c2];decide)).trans (cut_at (o:=14) (j:=9) es1 (by decide));have e25:cs[25]? =(sec a1 h1 f1 g1 S1)[10]? :=(cut_at (cs:=cs) (c:=Tryz.prog.cellsOf 29) (o:=1) (j:=24) rfl (by rw[c2];decide)).trans (cut_at (o:=14) (j:=10) es1 (by decide));have e26:cs[26]? =(sec a1 h1 f1 g1 S1)[11]? :=(cut_at (cs:=cs) (c:=Tryz.prog.cellsOf 29) (o:=1) (j:=25) rfl (by rw[c2];decide)).trans (cut_at (o:=14) (j:=11) es1 (by decide));have e27:cs[27]? =(sec a1 h1 f1 g1 S1)[12]? :=(cut_at (cs:=cs) (c:=Tryz.prog.cellsOf 29) (o:=1) (j:=26) rfl (by rw[c2];decide)).trans (cut_at (o:=14) (j:=12) es1 (by decide));have e28:cs[28]? =(sec a1 h1 f1 g1 S1)[13]? :=(cut_at (cs:=cs) (c:=Tryz.prog.cellsOf 29) (o:=1) (j:=27) rfl (by rw[c2];decide)).trans (cut_at (o:=14) (j:=13) es1 (by decide))
 obtain⟨st,lt,e29,rt,qt⟩:=rows_at (f:=itc) (sz:=5) Tryz.underlying30 (by kernel_rfl) (by kernel_rfl) (by decide) (fun _=>rfl) (fun _ _ _ h=>it_cs h) (hf 2 _ rfl)
 obtain⟨su,lu,e30,ru,qu⟩:=rows_at (f:=itc) (sz:=5) Tryz.underlying30 (by kernel_rfl) (by kernel_rfl) (by decide) (fun _=>rfl) (fun _ _ _ h=>it_cs h) (hf 3 _ rfl)
 obtain⟨sa,la,e31,ra,qa⟩:=rows_at (f:=ic) (sz:=1) Tryz.underlying26 (by kernel_rfl) (by kernel_rfl) (by decide) (fun _=>rfl) (fun _ _ _ h=>int_cs h) (hf 4 _ rfl)
 obtain⟨sb,lb,e32,rb,qb⟩:=rows_at (f:=kc) (sz:=2) Tryz.underlying31 (by kernel_rfl) (by kernel_rfl) (by decide) (fun _=>rfl) (fun _ _ _ h=>bk_cs h) (hf 5 _ rfl)
 obtain⟨n0,e33,_⟩:=int_at Tryz.underlying3 (by kernel_rfl) (hf 6 _ rfl)
 obtain⟨n1,e34,_⟩:=int_at Tryz.underlying3 (by kernel_rfl) (hf 7 _ rfl)
 obtain⟨n2,e35,_⟩:=int_at Tryz.underlying32 (by kernel_rfl) (hf 8 _ rfl)
 obtain⟨n3,e36,_⟩:=int_at Tryz.underlying3 (by kernel_rfl) (hf 9 _ rfl)
 obtain⟨n4,e37,_⟩:=int_at Tryz.underlying3 (by kernel_rfl) (hf 10 _ rfl)
 obtain⟨rt,qt'⟩:=it_rows rt qt
 obtain⟨ru,_⟩:=it_rows ru qu
 refine⟨(⟨so,a0,h0,f0,g0,a1,h1,f1,g1,st,su,sa,sb⟩,⟨lo,S0,S1,lt.map Prod.fst,lu.map Prod.fst,la,lb,n0,n1,n2,n3,n4⟩),?_,⟨ro,rs0,rs1,rt,ru,ra,rb⟩,⟨fun p z=> ?_,qo,qt',qa,qb⟩⟩
 ·exact eq_of_at (hl.trans (by kernel_rfl)) (fun i hi=>by
   match i,hi with
   |0,_=>exact e0
   |1,_=>exact e1
   |2,_=>exact e2
   |3,_=>exact e3
   |4,_=>exact e4
   |5,_=>exact e5
   |6,_=>exact e6
   |7,_=>exact e7
   |8,_=>exact e8
   |9,_=>exact e9
   |10,_=>exact e10
   |11,_=>exact e11
   |12,_=>exact e12
   |13,_=>exact e13
   |14,_=>exact e14
   |15,_=>exact e15
   |16,_=>exact e16
   |17,_=>exact e17
   |18,_=>exact e18
   |19,_=>exact e19
   |20,_=>exact e20
   |21,_=>exact e21
   |22,_=>exact e22
   |23,_=>exact e23
   |24,_=>exact e24
   |25,_=>exact e25
   |26,_=>exact e26
   |27,_=>exact e27
   |28,_=>exact e28
   |29,_=>exact e29
   |30,_=>exact e30
   |31,_=>exact e31
   |32,_=>exact e32
   |33,_=>exact e33
   |34,_=>exact e34
   |35,_=>exact e35
   |36,_=>exact e36
   |37,_=>exact e37
   |(q+38),h=>exact absurd (show q+38<38 from h) (by omega))
 unfold Bd.seat
 split
 ·exact qs0 z
 exact qs1 z
end
end Go.Proofs.YtpbepnpnpopmfaaGreat
