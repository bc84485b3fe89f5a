/- What the reading of cards and of happenings, as arguments, says. -/
import Derived.Test.YtpbepnpnpopmfaaGreatBOp
import Derived.Test.YtpbepnpnpopmfaaGreatTCe
import Derived.Test.YtpbepnpnpopmfaaGreatTCo
import Derived.Deep.Slices
import Derived.Deep.Fields
import Derived.OpenShut
import Derived.WideShapes
open Go.RowKit Go.Proofs.YtpbepnpnpopmfaaGreat
namespace Go.Proofs.YtpbepnpnpopmfaaGreat
open Plain Go.ChangeShapes Go.WideShapes Go.ChangeAt Go.WideMaps Go.WideElems
set_option linter.unusedVariables false
set_option linter.unusedSimpArgs false

section
variable {H:Type} {enc:TypeId×Value->H} {w:World} {base:Nat} {spare:Nat->Bool} {held:Bool}
set_option maxRecDepth 100000 in
theorem ef_cs{m:Nat}{cs:List Value}{x:DataW H×List MemPlace}(h:DataW.trod enc Tryz.prog w base spare held m 109 cs=some x):∃a:Ef,cs=efc a/\True:=by
 obtain⟨hl,m,hf⟩:=sfld Tryz.underlying109 h
 obtain⟨z0,e0,i0⟩:=int_at Tryz.underlying106 (by kernel_rfl) (hf 0 _ rfl)
 obtain⟨z1,e1,i1⟩:=int_at Tryz.underlying107 (by kernel_rfl) (hf 1 _ rfl)
 obtain⟨z2,e2,i2⟩:=int_at Tryz.underlying3 (by kernel_rfl) (hf 2 _ rfl)
 obtain⟨z3,e3,i3⟩:=int_at Tryz.underlying3 (by kernel_rfl) (hf 3 _ rfl)
 obtain⟨z4,e4,i4⟩:=int_at Tryz.underlying59 (by kernel_rfl) (hf 4 _ rfl)
 exact⟨⟨z0,z1,z2,z3,z4⟩,eq_of_at (hl.trans (by kernel_rfl)) (fun i hi=>by
  match i,hi with
  |0,_=>exact e0
  |1,_=>exact e1
  |2,_=>exact e2
  |3,_=>exact e3
  |4,_=>exact e4
  |(q+5),h=>exact absurd (show q+5<5 from h) (by omega)),trivial⟩
set_option maxRecDepth 100000 in
theorem tr_cs{m:Nat}{cs:List Value}{x:DataW H×List MemPlace}(h:DataW.trod enc Tryz.prog w base spare held m 67 cs=some x):∃a:Int×Sl,cs=trc a/\∃l:List Ef,Rw efc 5 w a.2.v l:=by
 obtain⟨hl,m,hf⟩:=sfld Tryz.underlying67 h
 obtain⟨z0,e0,i0⟩:=int_at Tryz.underlying65 (by kernel_rfl) (hf 0 _ rfl)
 obtain⟨s1,l1,e1,r1,_⟩:=rows_at (f:=efc) (sz:=5) Tryz.underlying61 (by kernel_rfl) (by kernel_rfl) (by decide) (fun _=>rfl) (fun _ _ _ h=>ef_cs h) (hf 1 _ rfl)
 exact⟨(z0,s1),eq_of_at (hl.trans (by kernel_rfl)) (fun i hi=>by
  match i,hi with
  |0,_=>exact e0
  |1,_=>exact e1
  |(q+2),h=>exact absurd (show q+2<2 from h) (by omega)),l1,r1⟩
set_option maxRecDepth 100000 in
theorem hp_cs{m:Nat}{cs:List Value}{x:DataW H×List MemPlace}(h:DataW.trod enc Tryz.prog w base spare held m 95 cs=some x):∃a:Hp,cs=hpc a/\Plain.I a.id:=by
 obtain⟨hl,m,hf⟩:=sfld Tryz.underlying95 h
 obtain⟨z0,e0,i0⟩:=int_at Tryz.underlying65 (by kernel_rfl) (hf 0 _ rfl)
 obtain⟨z1,e1,i1⟩:=int_at Tryz.underlying3 (by kernel_rfl) (hf 1 _ rfl)
 obtain⟨z2,e2,i2⟩:=int_at Tryz.underlying3 (by kernel_rfl) (hf 2 _ rfl)
 exact⟨⟨z0,z1,z2⟩,eq_of_at (hl.trans (by kernel_rfl)) (fun i hi=>by
  match i,hi with
  |0,_=>exact e0
  |1,_=>exact e1
  |2,_=>exact e2
  |(q+3),h=>exact absurd (show q+3<3 from h) (by omega)),i1⟩
theorem str_at{m o:Nat}{cs:List Value}(h:∃y,DataW.trod enc Tryz.prog w base spare held m 9 (List.take (Tryz.prog.cellsOf 9) (List.drop o cs))=some y):∃z,cs[o]? =some (.string z):=by
 obtain⟨y,h⟩:=h
 obtain⟨s,e,_,_⟩:=DataW.trod_string Tryz.underlying9 h
 rw[show Tryz.prog.cellsOf 9=1 by kernel_rfl] at e
 exact⟨s,by have:=cut_at e (show 0<1 by decide);simpa using this⟩
set_option maxRecDepth 100000 in
theorem cd_cs{m:Nat}{cs:List Value}{x:DataW H×List MemPlace}(h:DataW.trod enc Tryz.prog w base spare held m 64 cs=some x):∃a:Cd×List (Int×Nat),cs=a.1.cells/\(CdR w a/\Plain.I a.1.pw/\Plain.I a.1.tg):=by
 obtain⟨hl,m,hf⟩:=sfld Tryz.underlying64 h
 obtain⟨z0,e0⟩:=str_at (hf 0 _ rfl)
 obtain⟨z1,e1,i1⟩:=int_at Tryz.underlying56 (by kernel_rfl) (hf 1 _ rfl)
 obtain⟨yc,hyc⟩:=hf 2 _ rfl
 replace hyc:DataW.trod enc Tryz.prog w base spare held m 58 (List.take (Tryz.prog.cellsOf 58) (List.drop 2 cs))=some yc:=hyc
 obtain⟨hlc,mc,hfc⟩:=sfld Tryz.underlying58 hyc
 obtain⟨ym,hym⟩:=hfc 0 _ rfl
 replace hym:DataW.trod enc Tryz.prog w base spare held mc 25 (List.take (Tryz.prog.cellsOf 25) (List.drop 0 (List.take (Tryz.prog.cellsOf 58) (List.drop 2 cs))))=some ym:=hym
 obtain⟨ma,hpa⟩:=afld (k:=1) Tryz.underlying25 (by kernel_rfl) hym
 have c5:Tryz.prog.cellsOf 58=5:=by kernel_rfl
 have c4:Tryz.prog.cellsOf 25=4:=by kernel_rfl
 rw[c4,c5] at hpa
 rw[c5] at hfc
 obtain⟨p0,f0,_⟩:=int_at Tryz.underlying3 (by kernel_rfl) (hpa 0 (by decide))
 have e2:cs[2]? =some (.int .i64 p0):=by simpa [List.getElem?_take,List.getElem?_drop] using f0
 obtain⟨p1,f1,_⟩:=int_at Tryz.underlying3 (by kernel_rfl) (hpa 1 (by decide))
 have e3:cs[3]? =some (.int .i64 p1):=by simpa [List.getElem?_take,List.getElem?_drop] using f1
 obtain⟨p2,f2,_⟩:=int_at Tryz.underlying3 (by kernel_rfl) (hpa 2 (by decide))
 have e4:cs[4]? =some (.int .i64 p2):=by simpa [List.getElem?_take,List.getElem?_drop] using f2
 obtain⟨p3,f3,_⟩:=int_at Tryz.underlying3 (by kernel_rfl) (hpa 3 (by decide))
 have e5:cs[5]? =some (.int .i64 p3):=by simpa [List.getElem?_take,List.getElem?_drop] using f3
 obtain⟨p4,f4,_⟩:=int_at Tryz.underlying3 (by kernel_rfl) (hfc 1 _ rfl)
 have e6:cs[6]? =some (.int .i64 p4):=by
  have f4':(List.take 5 (List.drop 2 cs))[4]? =some (.int .i64 p4):=f4
  simpa [List.getElem?_take,List.getElem?_drop] using f4'
 obtain⟨z7,e7,i7⟩:=int_at Tryz.underlying59 (by kernel_rfl) (hf 3 _ rfl)
 obtain⟨z8,e8,i8⟩:=int_at Tryz.underlying3 (by kernel_rfl) (hf 4 _ rfl)
 obtain⟨z9,e9,i9⟩:=int_at Tryz.underlying3 (by kernel_rfl) (hf 5 _ rfl)
 obtain⟨z10,e10,i10⟩:=int_at Tryz.underlying60 (by kernel_rfl) (hf 6 _ rfl)
 obtain⟨s11,l11,e11,r11,_⟩:=rows_at (f:=efc) (sz:=5) Tryz.underlying61 (by kernel_rfl) (by kernel_rfl) (by decide) (fun _=>rfl) (fun _ _ _ h=>ef_cs h) (hf 7 _ rfl)
 obtain⟨s12,l12,e12,r12,q12⟩:=rows_at (f:=trc) (sz:=2) Tryz.underlying62 (by kernel_rfl) (by kernel_rfl) (by decide) (fun _=>rfl) (fun _ _ _ h=>tr_cs h) (hf 8 _ rfl)
 obtain⟨z13,e13,i13⟩:=int_at Tryz.underlying3 (by kernel_rfl) (hf 9 _ rfl)
 exact⟨(⟨z0,z1,p0,p1,p2,p3,p4,z7,z8,z9,z10,s11.a,s11.n,s11.c,s12.a,s12.n,s12.c,z13⟩,l12.map (fun t=>(t.1,t.2.n))),eq_of_at (hl.trans (by kernel_rfl)) (fun i hi=>by
  match i,hi with
  |0,_=>exact e0
  |1,_=>exact e1
  |2,_=>exact e2
  |3,_=>exact e3
  |4,_=>exact e4
  |5,_=>exact e5
  |6,_=>exact e6
  |7,_=>exact e7
  |8,_=>exact e8
  |9,_=>exact e9
  |10,_=>exact e10
  |11,_=>exact e11
  |12,_=>exact e12
  |13,_=>exact e13
  |(q+14),h=>exact absurd (show q+14<14 from h) (by omega)),⟨⟨l11,r11⟩,l12,r12,rfl,q12⟩,i8,i9⟩
theorem open_cards{a:Option Addr}{len cap:Nat}{d:DataW H}{p:List MemPlace}(h:DataW.Trod enc Tryz.prog w base spare held 22 (.slice a len cap) d p):∃l:List (Cd×List (Int×Nat)),CsR w (.slice a len cap) l/\∀x∈l,Plain.I x.1.pw/\Plain.I x.1.tg:=by
 obtain⟨fuel,hf⟩:=h
 obtain⟨s,l,e,r,q⟩:=rows_at (f:=fun x:Cd×List (Int×Nat)=>x.1.cells) (sz:=14) (Q:=fun x=>CdR w x/\Plain.I x.1.pw/\Plain.I x.1.tg) (o:=0) (cs:=[.slice a len cap]) Tryz.underlying22 (by kernel_rfl) (by kernel_rfl) (by decide) (fun _=>rfl) (fun m cs y h=>cd_cs h) ⟨_,by rw[show Tryz.prog.cellsOf 22=1 by kernel_rfl];exact hf⟩
 have es:s.v= .slice a len cap:=by simpa using e.symm
 rw[es] at r
 refine⟨l,⟨?_,fun x hx=>(q x hx).1⟩,fun x hx=>(q x hx).2⟩
 rcases r with⟨rfl,h1⟩|⟨h0,h1,b,off,cap',hv,hlt,hc⟩
 ·rcases h1 with h1|⟨a',c',h1⟩
  ·exact .inl ⟨rfl,none,0,h1⟩
  exact .inl ⟨rfl,some a',c',h1⟩
 refine .inr ⟨by simpa using h0,by simpa using h1,b,off,cap',by rw[List.length_map];exact hv,hlt,fun i c hi j u hu=> ?_⟩;rw[List.getElem?_map] at hi
 cases hx:l[i]? with
 |none=>rw[hx] at hi;cases hi
 |some y=>
  rw[hx] at hi
  simp at hi
  subst hi;exact hc i y hx j u hu
theorem open_haps{a:Option Addr}{len cap:Nat}{d:DataW H}{p:List MemPlace}(h:DataW.Trod enc Tryz.prog w base spare held 93 (.slice a len cap) d p):∃l:List Hp,(Rw hpc 3 w (.slice a l.length cap) l/\∀x∈l,Plain.I x.id)/\l.length=len:=by
 obtain⟨fuel,hf⟩:=h
 obtain⟨s,l,e,r,q⟩:=rows_at (f:=hpc) (sz:=3) (Q:=fun x=>Plain.I x.id) (o:=0) (cs:=[.slice a len cap]) Tryz.underlying93 (by kernel_rfl) (by kernel_rfl) (by decide) (fun _=>rfl) (fun m cs y h=>hp_cs h) ⟨_,by rw[show Tryz.prog.cellsOf 93=1 by kernel_rfl];exact hf⟩
 have es:s.v= .slice a len cap:=by simpa using e.symm
 rw[es] at r
 obtain⟨_,a2,c2,e2,_⟩:=r.form
 have hl:l.length=len:=by simp at e2;exact e2.2.1.symm
 exact⟨l,⟨by rw[hl];exact r,q⟩,hl⟩
theorem haps_cap{a:Option Addr}{len cap:Nat}{d:DataW H}{p:List MemPlace}(h:DataW.Trod enc Tryz.prog w base spare held 93 (.slice a len cap) d p):len<=cap/\(a=none->cap=0):=by
 obtain⟨fuel,hf⟩:=h
 rcases Go.Deep.open_slice Tryz.underlying93 hf with h0|⟨a2,len2,cap2,m,n,D,Pl,h1,_,hl,_⟩
 ·have h1:=h0.1
  simp[Value.cells] at h1
  obtain⟨rfl,rfl,rfl⟩:=h1
  exact⟨Nat.le_refl _,fun _=>rfl⟩
 simp[Value.cells] at h1
 obtain⟨rfl,rfl,rfl⟩:=h1
 exact⟨hl,fun e=>by cases e⟩
end
end Go.Proofs.YtpbepnpnpopmfaaGreat
