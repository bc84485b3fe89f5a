/- Boards in memory. Small functions about boards. Targets and items, by the code. -/
import Derived.Test.YtpbepnpnpopmfaaGreatRows
import Derived.Test.YtpbepnpnpopmfaaGreatReg
import Derived.Test.YtpbepnpnpopmfaaGreatRw
import Derived.Test.YtpbepnpnpopmfaaGreatBPl
import Derived.WalkKit
import Derived.ProofKit
import Derived.LoopTactic
import Derived.Lib.Hide
import Derived.Lib.SliceRun
import Derived.Laws.CopyOwn
import Derived.Laws.IdiomCopy
import Derived.Deep.DeepCutAuto
import Derived.Deep.MidRow
open Go.RowKit Go.Proofs.YtpbepnpnpopmfaaGreat
set_option maxRecDepth 100000
set_option maxHeartbeats 4000000
namespace Go.Proofs.YtpbepnpnpopmfaaGreat
open Plain
set_option linter.unusedVariables false
set_option linter.unusedSimpArgs false

structure Sl where
 a:Option Addr
 n:Nat
 c:Nat
def Sl.v(s:Sl):Value:= .slice s.a s.n s.c
def ic(z:Int):List Value:=[.int .i64 z]
theorem ic_ok:∀z:Int,(ic z).length=1/\∀u∈ic z,u.oneCell' =true:=fun z=>⟨rfl,fun u hu=>by simp[ic] at hu;subst hu;rfl⟩
theorem ic1:∀x,ic x=[Value.int .i64 x]:=fun _=>rfl
theorem ic_len{l:List Int}:∀x∈l,(ic x).length=1:=fun _ _=>rfl
def oc(o:Ob):List Value:=[.int .i64 o.id,.int .i64 o.cd,.int .i64 o.ow,.int .i64 o.po,.int .i64 o.tg,.int .i64 o.da,.int .i64 o.co,.int .i64 o.pp,.int .i64 o.pt,.bool o.ta,.bool o.si,.bool o.dm]
theorem oc_ok:∀z:Ob,(oc z).length=12/\∀u∈oc z,u.oneCell' =true:=fun z=>⟨rfl,fun u hu=>by simp[oc] at hu;rcases hu with rfl|rfl|rfl|rfl|rfl|rfl|rfl|rfl|rfl|rfl|rfl|rfl<;>rfl⟩
def tc(t:Tg):List Value:=[.int .i64 t.id,.int .i64 t.pl]
theorem tc_ok:∀z:Tg,(tc z).length=2/\∀u∈tc z,u.oneCell' =true:=fun z=>⟨rfl,fun u hu=>by simp[tc] at hu;rcases hu with rfl|rfl<;>rfl⟩
def kc(t:Bk):List Value:=[.int .i64 t.bl,.int .i64 t.at']
theorem kc_ok:∀z:Bk,(kc z).length=2/\∀u∈kc z,u.oneCell' =true:=fun z=>⟨rfl,fun u hu=>by simp[kc] at hu;rcases hu with rfl|rfl<;>rfl⟩
def itc(x:It×Sl):List Value:=[.int .i64 x.1.pl,.int .i64 x.1.id,.int .i64 x.1.cd,.int .i64 x.1.tr,x.2.v]
theorem itc_ok:∀z:It×Sl,(itc z).length=5/\∀u∈itc z,u.oneCell' =true:=fun z=>⟨rfl,fun u hu=>by simp[itc,Sl.v] at hu;rcases hu with rfl|rfl|rfl|rfl|rfl<;>rfl⟩
def ItR(w:World)(v:Value)(l:List It):Prop:=∃l':List (It×Sl),l'.map Prod.fst=l/\Rw itc 5 w v l'/\∀x∈l',Rw tc 2 w x.2.v x.1.tg
structure Bs where
 ob:Sl
 l0:Sl
 h0:Sl
 f0:Sl
 g0:Sl
 l1:Sl
 h1:Sl
 f1:Sl
 g1:Sl
 st:Sl
 qu:Sl
 at':Sl
 bl:Sl
def bcells(s:Bs)(B:Bd):Array Value:= #[s.ob.v,.int .i64 B.s0.li,.int .i64 B.s0.p0,.int .i64 B.s0.p1,.int .i64 B.s0.p2,.int .i64 B.s0.p3,s.l0.v,s.h0.v,s.f0.v,s.g0.v,.bool B.s0.em,.bool B.s0.py,.bool B.s0.kp,.int .i64 B.s0.mu,.int .i64 B.s0.ac,.int .i64 B.s1.li,.int .i64 B.s1.p0,.int .i64 B.s1.p1,.int .i64 B.s1.p2,.int .i64 B.s1.p3,s.l1.v,s.h1.v,s.f1.v,s.g1.v,.bool B.s1.em,.bool B.s1.py,.bool B.s1.kp,.int .i64 B.s1.mu,.int .i64 B.s1.ac,s.st.v,s.qu.v,s.at'.v,s.bl.v,.int .i64 B.tu,.int .i64 B.ac,.int .i64 B.ph,.int .i64 B.ho,.int .i64 B.pa]
def bv(s:Bs)(B:Bd):Value:= .agg (bcells s B)
structure SeR(w:World)(l h f g:Sl)(S:Se):Prop where
 l:Rw ic 1 w l.v S.lib
 h:Rw ic 1 w h.v S.hand
 f:Rw ic 1 w f.v S.fld
 g:Rw ic 1 w g.v S.grv
structure BdR(w:World)(s:Bs)(B:Bd):Prop where
 ob:Rw oc 12 w s.ob.v B.ob
 s0:SeR w s.l0 s.h0 s.f0 s.g0 B.s0
 s1:SeR w s.l1 s.h1 s.f1 s.g1 B.s1
 st:ItR w s.st.v B.st
 qu:ItR w s.qu.v B.qu
 att:Rw ic 1 w s.at'.v B.att
 bl:Rw kc 2 w s.bl.v B.bl
theorem ItR.below{w w':World}{v:Value}{l:List It}(h:ItR w v l)(hb:Below w.heap.size w w'):ItR w' v l:=by
 obtain⟨l',h1,h2,h3⟩:=h
 exact⟨l',h1,h2.below hb,fun x hx=>(h3 x hx).below hb⟩
theorem SeR.below{w w':World}{l h f g:Sl}{S:Se}(r:SeR w l h f g S)(hb:Below w.heap.size w w'):SeR w' l h f g S:=⟨r.l.below hb,r.h.below hb,r.f.below hb,r.g.below hb⟩
theorem BdR.below{w w':World}{s:Bs}{B:Bd}(h:BdR w s B)(hb:Below w.heap.size w w'):BdR w' s B:=⟨h.ob.below hb,h.s0.below hb,h.s1.below hb,h.st.below hb,h.qu.below hb,h.att.below hb,h.bl.below hb⟩
theorem bcells_size(s:Bs)(B:Bd):(bcells s B).size=38:=rfl
theorem bv_cells(s:Bs)(B:Bd):(bv s B).cells=bcells s B:=rfl
end Go.Proofs.YtpbepnpnpopmfaaGreat
namespace Go.Proofs.YtpbepnpnpopmfaaGreat
open Plain
set_option linter.unusedVariables false
set_option linter.unusedSimpArgs false

def Bx(w:World)(P:Nat)(s:Bs)(B:Bd):Prop:=w.heap[P]? =some (.cells (bcells s B) 34 (0,0))
theorem Bx.cell{w:World}{P:Nat}{s:Bs}{B:Bd}(h:Bx w P s B)(i:Nat):w.cell? ⟨P,i,none⟩=(bcells s B)[i]? :=cell_of_row w P i _ 34 (0,0) h
theorem Bx.lt{w:World}{P:Nat}{s:Bs}{B:Bd}(h:Bx w P s B):P<w.heap.size:=(Array.getElem?_eq_some_iff.1 h).1
theorem Bx.below{w w':World}{P:Nat}{s:Bs}{B:Bd}(h:Bx w P s B)(hb:Below w.heap.size w w'):Bx w' P s B:=(hb.block P h.lt).trans h
theorem Bx.load{w:World}{P:Nat}{s:Bs}{B:Bd}(h:Bx w P s B):(Instr.loadAt 34 (.pointer (some ⟨P,0,none⟩))).run Tryz.prog w= .ok (bv s B) w:=by
 simp only[Instr.loadAt,Instr.sureAddr,Sem.run_bind,Sem.run_pure,Result.andThen_ok];exact run_loadVar_row w P 34 34 _ (0,0) _ h Tryz.underlying34 rfl (by kernel_rfl)
def sev(l h f g:Sl)(S:Se):Value:= .agg #[.int .i64 S.li,.int .i64 S.p0,.int .i64 S.p1,.int .i64 S.p2,.int .i64 S.p3,l.v,h.v,f.v,g.v,.bool S.em,.bool S.py,.bool S.kp,.int .i64 S.mu,.int .i64 S.ac]
theorem within(n a b:Int)(w:World):Calls Tryz.prog 52 #[.int .i64 n,.int .i64 a,.int .i64 b] w fun e w' =>e= .returned (.bool (decide (a<=n/\n<=b)))/\w=w':=by
 by_cases h1:a<=n
 ·by_cases h2:n<=b
  ·go_enter Tryz.func52,Tryz.ntmps52
   go_wp2_with fail
   go_returns
   exact⟨by simp[h1,h2],rfl⟩
  go_enter Tryz.func52,Tryz.ntmps52;go_wp2_with fail
  go_returns
  exact⟨by simp[h1,h2],rfl⟩
 go_enter Tryz.func52,Tryz.ntmps52;go_wp2_with fail
 go_returns
 exact⟨by simp<;>omega,rfl⟩
theorem withinc(n a b:Int)(r:Bool)(w:World)(h:decide (a<=n/\n<=b)=r):Calls Tryz.prog 52 #[.int .i64 n,.int .i64 a,.int .i64 b] w fun e w' =>e= .returned (.bool r)/\w=w':=by
 subst h;exact within n a b w
end Go.Proofs.YtpbepnpnpopmfaaGreat
namespace Go.Proofs.YtpbepnpnpopmfaaGreat
open Plain
set_option linter.unusedVariables false
set_option linter.unusedSimpArgs false

theorem aimed(t:Tg)(w:World):Calls Tryz.prog 83 #[.agg #[.int .i64 t.id,.int .i64 t.pl]] w fun e w' =>e= .returned (.bool (tgB t))/\Below w.heap.size w w':=by
 go_enter Tryz.func83,Tryz.ntmps83
 go_upto_region 1 with fail
 obtain⟨wz,hwz⟩:∃W,W=w.alloc (.cells #[.int .i64 t.id,.int .i64 t.pl] 98):=⟨_,rfl⟩
 have HBZ:Hid (Below w.heap.size w wz):=Hd (by rw[hwz];exact(Below.refl _ _).alloc (Nat.le_refl _) _);have c0:wz.cell? ⟨w.heap.size,0,none⟩=some (.int .i64 t.id):=by rw[hwz];exact cell_of_row _ _ 0 _ 98 (0,0) (heap_alloc_new _ _)
 have c1:wz.cell? ⟨w.heap.size,1,none⟩=some (.int .i64 t.pl):=by rw[hwz];exact cell_of_row _ _ 1 _ 98 (0,0) (heap_alloc_new _ _)
 rw[<-hwz];clear hwz
 by_cases h1:0<=t.id/\t.id<=500
 ·have q1:decide ((0:Int)<=t.id/\t.id<=500)=true:=decide_eq_true h1
  by_cases h2:0<=t.pl/\t.pl<=1
  ·have q2:decide ((0:Int)<=t.pl/\t.pl<=1)=true:=decide_eq_true h2
   by_cases h3:t.id=0
   ·have q3:(t.id==0)=true:=by simp[h3]
    have HR:Hid (tgB t=true):=Hd (decide_eq_true ⟨h1,h2,.inl h3⟩);clear h1 h2 h3;go_wp2_with fail
    with_reducible refine(withinc _ _ _ true _ q1).mono ?_
    rintro e w' ⟨rfl,rfl⟩;go_wp2_with fail
    with_reducible refine(withinc _ _ _ true _ q2).mono ?_
    rintro e w' ⟨rfl,rfl⟩;go_wp2_with fail
    go_returns
    exact⟨by rw[HR.o];rfl,HBZ.o⟩
   have q3:(t.id==0)=false:=by simpa using h3
   by_cases h4:t.pl=0
   ·have q4:(t.pl==0)=true:=by simp[h4]
    have HR:Hid (tgB t=true):=Hd (decide_eq_true ⟨h1,h2,.inr h4⟩);clear h1 h2 h3 h4;go_wp2_with fail
    with_reducible refine(withinc _ _ _ true _ q1).mono ?_
    rintro e w' ⟨rfl,rfl⟩;go_wp2_with fail
    with_reducible refine(withinc _ _ _ true _ q2).mono ?_
    rintro e w' ⟨rfl,rfl⟩;go_wp2_with fail
    go_returns
    exact⟨by rw[HR.o];rfl,HBZ.o⟩
   have q4:(t.pl==0)=false:=by simpa using h4
   have HR:Hid (tgB t=false):=Hd (decide_eq_false (by omega));clear h1 h2 h3 h4;go_wp2_with fail
   with_reducible refine(withinc _ _ _ true _ q1).mono ?_
   rintro e w' ⟨rfl,rfl⟩;go_wp2_with fail
   with_reducible refine(withinc _ _ _ true _ q2).mono ?_
   rintro e w' ⟨rfl,rfl⟩;go_wp2_with fail
   go_returns
   exact⟨by rw[HR.o];rfl,HBZ.o⟩
  have q2:decide ((0:Int)<=t.pl/\t.pl<=1)=false:=decide_eq_false h2;have HR:Hid (tgB t=false):=Hd (decide_eq_false (by omega));clear h1 h2;go_wp2_with fail
  with_reducible refine(withinc _ _ _ true _ q1).mono ?_
  rintro e w' ⟨rfl,rfl⟩;go_wp2_with fail
  with_reducible refine(withinc _ _ _ false _ q2).mono ?_
  rintro e w' ⟨rfl,rfl⟩;go_wp2_with fail
  go_returns
  exact⟨by rw[HR.o];rfl,HBZ.o⟩
 have q1:decide ((0:Int)<=t.id/\t.id<=500)=false:=decide_eq_false h1;have HR:Hid (tgB t=false):=Hd (decide_eq_false (by omega));clear h1;go_wp2_with fail
 with_reducible refine(withinc _ _ _ false _ q1).mono ?_
 rintro e w' ⟨rfl,rfl⟩;go_wp2_with fail
 go_returns
 exact⟨by rw[HR.o];rfl,HBZ.o⟩
theorem aimedc(t:Tg)(r:Bool)(w:World)(h:tgB t=r):Calls Tryz.prog 83 #[.agg #[.int .i64 t.id,.int .i64 t.pl]] w fun e w' =>e= .returned (.bool r)/\Below w.heap.size w w':=by
 subst h;exact aimed t w
theorem notaimed(t:Tg)(w:World):Calls Tryz.prog 82 #[.agg #[.int .i64 t.id,.int .i64 t.pl]] w fun e w' =>e= .returned (.bool (!tgB t))/\Below w.heap.size w w':=by
 go_enter Tryz.func82,Tryz.ntmps82
 go_upto_region 1 with fail
 obtain⟨wz,hwz⟩:∃W,W=w.alloc (.cells #[.int .i64 t.id,.int .i64 t.pl] 98):=⟨_,rfl⟩
 have HBZ:Hid (Below w.heap.size w wz):=Hd (by rw[hwz];exact(Below.refl _ _).alloc (Nat.le_refl _) _);have c0:wz.cell? ⟨w.heap.size,0,none⟩=some (.int .i64 t.id):=by rw[hwz];exact cell_of_row _ _ 0 _ 98 (0,0) (heap_alloc_new _ _)
 have c1:wz.cell? ⟨w.heap.size,1,none⟩=some (.int .i64 t.pl):=by rw[hwz];exact cell_of_row _ _ 1 _ 98 (0,0) (heap_alloc_new _ _)
 rw[<-hwz];clear hwz;go_wp2_with fail
 with_reducible refine(aimed t _).mono ?_
 rintro e w2 ⟨rfl,hb2⟩;have HB2:=Hd (below_via HBZ.o hb2);clear hb2;go_wp2_with fail
 go_returns
 exact⟨rfl,HB2.o⟩
def badtgRel(w:World)(l:List Tg)(i:Value)(wr:World):Prop:=∃k:Nat,k<=l.length/\i= .int .i64 k/\(l.take k).any (fun x=> !tgB x)=false/\Below w.heap.size w wr
theorem badtgI(v:Value)(l:List Tg)(w:World)(hs:Rw tc 2 w v l):Calls Tryz.prog 99 #[v,.func (.func 82) #[] #[]] w fun e w' =>(∃r:Int,e= .returned (.int .i64 r)/\decide (r>=0)=l.any (fun x=> !tgB x))/\Below w.heap.size w w':=by
 obtain⟨hm,a0,c0,rfl,hf⟩:=hs.form
 have HF:=Hd hf;have HS:=Hd hs;clear hs hf;go_enter Tryz.func99,Tryz.ntmps99;go_wp2_with fail
 go_loopw [8] (fun i wr=>badtgRel w l i wr) (fun i _=>l.length-(intOf i).toNat)
 case atStart=>exact⟨0,Nat.zero_le _,rfl,rfl,Below.refl _ _⟩
 obtain⟨k,hk,rfl,hn,hb⟩:=hrel
 have HN:=Hd hn;have hzz:=hb.size;clear hn
 by_cases hlt2:k<l.length
 ·obtain⟨b,off,rfl,hlt,hc⟩:=HF.o (by omega)
  obtain⟨x,hx⟩:∃x,l[k]? =some x:=⟨_,List.getElem?_eq_getElem hlt2⟩
  have HX:=Hd hx;have d0:wr.cell? ⟨b,off+k*2,none⟩=some (.int .i64 x.id):=(hb.cell (p:=⟨b,off+k*2,none⟩) hlt).trans (hc k x HX.o 0 _ rfl);have d1:wr.cell? ⟨b,off+k*2+1,none⟩=some (.int .i64 x.pl):=(hb.cell (p:=⟨b,off+k*2+1,none⟩) hlt).trans (hc k x HX.o 1 _ rfl);have i1:(0:Int)<=(k:Int):=by omega
  have i2:(k:Int)<(l.length:Int):=by omega
  have HM:=Hd (List.mem_of_getElem? hx);have HK:=Hd hlt2;have HBW:=Hd hb;have HC:Hid (Calls Tryz.prog 82 #[.agg #[.int .i64 x.id,.int .i64 x.pl]] wr fun e w' =>e= .returned (.bool (!tgB x))/\Below wr.heap.size wr w'):=Hd (notaimed x wr)
  obtain⟨p,hp⟩:∃p,(!tgB x)=p:=⟨_,rfl⟩
  rw[hp] at HC
  have HP:=Hd hp;clear hc hx hp hb
  cases p
  ·go_wp2_with fail
   with_reducible refine HC.o.mono ?_
   rintro e w2 ⟨rfl,hb2⟩;have HB2:=Hd (below_via HBW.o hb2);clear hb2;go_wp2_with fail
   go_roundw
   case rel=>exact⟨k+1,by omega,by go_num,by rw[List.take_add_one,HX.o,List.any_append,HN.o];simp[HP.o],HB2.o⟩
   case measure=>simp[intOf];omega
  go_wp2_with fail
  with_reducible refine HC.o.mono ?_
  rintro e w2 ⟨rfl,hb2⟩;have HB2:=Hd (below_via HBW.o hb2);clear hb2;go_wp2_with fail
  go_returns
  exact⟨⟨k,rfl,by rw[List.any_eq_true.2 ⟨x,HM.o,HP.o⟩];simp⟩,HB2.o⟩
 obtain rfl:k=l.length:=by omega
 have HBW:=Hd hb;clear hb;go_wp2_with fail
 go_returns
 exact⟨⟨-1,rfl,by have:=HN.o;rw[List.take_length] at this;rw[this];rfl⟩,HBW.o⟩
theorem badtg(v:Value)(l:List Tg)(r:Bool)(w:World)(hs:Rw tc 2 w v l)(hr:l.any (fun x=> !tgB x)=r):Calls Tryz.prog 81 #[v,.func (.func 82) #[] #[]] w fun e w' =>e= .returned (.bool r)/\Below w.heap.size w w':=by
 have HI:=Hd (badtgI v l w hs);rw[hr] at HI
 clear hs hr;go_enter Tryz.func81,Tryz.ntmps81;go_wp2_with fail
 with_reducible refine HI.o.mono ?_
 rintro e w2 ⟨⟨z,rfl,hz⟩,hb2⟩;have HZ:=Hd hz;have HB2:=Hd hb2;clear hz hb2;go_wp2_with fail
 go_returns
 exact⟨by rw[<-HZ.o];rfl,HB2.o⟩
end Go.Proofs.YtpbepnpnpopmfaaGreat
