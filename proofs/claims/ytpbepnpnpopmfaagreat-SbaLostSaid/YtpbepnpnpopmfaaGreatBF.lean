/- Items, by the code. -/
import Derived.Test.YtpbepnpnpopmfaaGreatBV
import Derived.Deep.DeepCutAuto
import Derived.LoopTactic
open Go.RowKit Go.Proofs.YtpbepnpnpopmfaaGreat
set_option maxRecDepth 100000
set_option maxHeartbeats 4000000
namespace Go.Proofs.YtpbepnpnpopmfaaGreat
open Plain
set_option linter.unusedVariables false
set_option linter.unusedSimpArgs false

theorem itB_false{x:It}{q:Bool}(h:¬((0<=x.pl/\x.pl<=1)/\(1<=x.id/\x.id<=500)/\(0<=x.cd/\x.cd<=399)/\(-1<=x.tr/\x.tr<=1)/\x.tg.length<=4/\(0<=x.tr->x.tg.length=0)/\(q=true->0<=x.tr))):itB x q=false:=by
 unfold itB itN;rw[decide_eq_false h]
 rfl
theorem itB_true{x:It}{q:Bool}(h:((0<=x.pl/\x.pl<=1)/\(1<=x.id/\x.id<=500)/\(0<=x.cd/\x.cd<=399)/\(-1<=x.tr/\x.tr<=1)/\x.tg.length<=4/\(0<=x.tr->x.tg.length=0)/\(q=true->0<=x.tr))):itB x q=x.tg.all tgB:=by
 unfold itB itN;rw[decide_eq_true h]
 rfl
theorem any_not{α:Type}(p:α->Bool)(l:List α):l.all p= !l.any (fun x=> !p x):=by
 induction l with
 |nil=>rfl
 |cons a l ih=>simp[List.all_cons,List.any_cons,ih]
theorem fine(x:It)(s:Sl)(q:Bool)(w:World)(ht:Rw tc 2 w s.v x.tg):Calls Tryz.prog 56 #[.agg #[.int .i64 x.pl,.int .i64 x.id,.int .i64 x.cd,.int .i64 x.tr,.slice s.a s.n s.c],.bool q] w fun e w' =>e= .returned (.bool (itB x q))/\Below w.heap.size w w':=by
 have HT:=Hd ht
 obtain⟨_,a0,c0,hv,_⟩:=ht.form
 have hsn:s.n=x.tg.length:=by
  unfold Sl.v at hv
  simp only[Value.slice.injEq] at hv
  exact hv.2.1
 clear hv ht
 obtain⟨sa,n,sc⟩:=s
 have HN:Hid (x.tg.length=n):=Hd hsn.symm;change Hid (Rw tc 2 w (.slice sa n sc) x.tg) at HT
 clear hsn;go_enter Tryz.func56,Tryz.ntmps56
 go_upto_region 1 with fail
 obtain⟨wz,hwz⟩:∃W,W=w.alloc (.cells #[.int .i64 x.pl,.int .i64 x.id,.int .i64 x.cd,.int .i64 x.tr,.slice sa n sc] 73):=⟨_,rfl⟩
 have HBZ:Hid (Below w.heap.size w wz):=Hd (by rw[hwz];exact(Below.refl _ _).alloc (Nat.le_refl _) _);have c0:wz.cell? ⟨w.heap.size,0,none⟩=some (.int .i64 x.pl):=by rw[hwz];exact cell_of_row _ _ 0 _ 73 (0,0) (heap_alloc_new _ _)
 have c1:wz.cell? ⟨w.heap.size,1,none⟩=some (.int .i64 x.id):=by rw[hwz];exact cell_of_row _ _ 1 _ 73 (0,0) (heap_alloc_new _ _)
 have c2:wz.cell? ⟨w.heap.size,2,none⟩=some (.int .i64 x.cd):=by rw[hwz];exact cell_of_row _ _ 2 _ 73 (0,0) (heap_alloc_new _ _)
 have c3:wz.cell? ⟨w.heap.size,3,none⟩=some (.int .i64 x.tr):=by rw[hwz];exact cell_of_row _ _ 3 _ 73 (0,0) (heap_alloc_new _ _)
 have c4:wz.cell? ⟨w.heap.size,4,none⟩=some (.slice sa n sc):=by rw[hwz];exact cell_of_row _ _ 4 _ 73 (0,0) (heap_alloc_new _ _)
 rw[<-hwz];clear hwz
 by_cases h0:(0:Int)<=x.pl/\x.pl<=1
 ·have q0:decide ((0:Int)<=x.pl/\x.pl<=1)=true:=decide_eq_true h0
  by_cases h1:(1:Int)<=x.id/\x.id<=500
  ·have q1:decide ((1:Int)<=x.id/\x.id<=500)=true:=decide_eq_true h1
   by_cases h2:(0:Int)<=x.cd/\x.cd<=399
   ·have q2:decide ((0:Int)<=x.cd/\x.cd<=399)=true:=decide_eq_true h2
    by_cases h3:(-1:Int)<=x.tr/\x.tr<=1
    ·have q3:decide ((-1:Int)<=x.tr/\x.tr<=1)=true:=decide_eq_true h3
     by_cases h5:n<=4
     ·have r5:decide ((n:Int)>4)=false:=decide_eq_false (by omega)
      by_cases h6:0<=x.tr/\0<n
      ·have r6:decide (x.tr>=0)=true:=decide_eq_true h6.1
       have r7:decide ((n:Int)>0)=true:=decide_eq_true (by omega);have HR:Hid (itB x q=false):=Hd (itB_false (fun h=>by have:=h.2.2.2.2.2.1 h6.1;have:=HN.o;omega));have h9:0<n:=h6.2;have h9':¬n=0:=by omega
       have h9'':(0:Int)<(n:Int):=by omega
       clear h5 h6;go_wp2_with fail
       with_reducible refine(withinc _ _ _ true _ q0).mono ?_
       rintro e w' ⟨rfl,rfl⟩;go_wp2_with fail
       with_reducible refine(withinc _ _ _ true _ q1).mono ?_
       rintro e w' ⟨rfl,rfl⟩;go_wp2_with fail
       with_reducible refine(withinc _ _ _ true _ q2).mono ?_
       rintro e w' ⟨rfl,rfl⟩;go_wp2_with fail
       with_reducible refine(withinc _ _ _ true _ q3).mono ?_
       rintro e w' ⟨rfl,rfl⟩;go_wp2_with fail
       go_returns
       exact⟨by rw[HR.o];rfl,HBZ.o⟩
      by_cases h7:q=true/\x.tr<0
      ·obtain⟨rfl,h7⟩:=h7
       have r6:decide (x.tr>=0)=false:=decide_eq_false (by omega);have r7:decide (x.tr<0)=true:=decide_eq_true h7;have HR:Hid (itB x true=false):=Hd (itB_false (fun h=>by have:=h.2.2.2.2.2.2 rfl;omega));clear h5 h6 h7;go_wp2_with fail
       with_reducible refine(withinc _ _ _ true _ q0).mono ?_
       rintro e w' ⟨rfl,rfl⟩;go_wp2_with fail
       with_reducible refine(withinc _ _ _ true _ q1).mono ?_
       rintro e w' ⟨rfl,rfl⟩;go_wp2_with fail
       with_reducible refine(withinc _ _ _ true _ q2).mono ?_
       rintro e w' ⟨rfl,rfl⟩;go_wp2_with fail
       with_reducible refine(withinc _ _ _ true _ q3).mono ?_
       rintro e w' ⟨rfl,rfl⟩;go_wp2_with fail
       go_returns
       exact⟨by rw[HR.o];rfl,HBZ.o⟩
      have HR:Hid (itB x q= !x.tg.any (fun t=> !tgB t)):=Hd (by
       rw[itB_true ⟨h0,h1,h2,h3,by rw[HN.o];exact h5,fun h=>by have:=HN.o;omega,fun hq=>Int.not_lt.1 (fun h=>h7 ⟨hq,h⟩)⟩,any_not])
      by_cases h8:0<=x.tr
      ·have r6:decide (x.tr>=0)=true:=decide_eq_true h8
       have r7:decide ((n:Int)>0)=false:=decide_eq_false (by omega);have r8:decide (x.tr<0)=false:=decide_eq_false (by omega);obtain rfl:n=0:=by omega
       have HA:=Hd (badtg (.slice sa 0 sc) x.tg _ wz (HT.o.below HBZ.o) rfl);clear h5 h6 h7 h8
       cases q
       ·go_wp2_with fail
        with_reducible refine(withinc _ _ _ true _ q0).mono ?_
        rintro e w' ⟨rfl,rfl⟩;go_wp2_with fail
        with_reducible refine(withinc _ _ _ true _ q1).mono ?_
        rintro e w' ⟨rfl,rfl⟩;go_wp2_with fail
        with_reducible refine(withinc _ _ _ true _ q2).mono ?_
        rintro e w' ⟨rfl,rfl⟩;go_wp2_with fail
        with_reducible refine(withinc _ _ _ true _ q3).mono ?_
        rintro e w' ⟨rfl,rfl⟩;go_wp2_with fail
        with_reducible refine HA.o.mono ?_
        rintro e w2 ⟨rfl,hb2⟩;have HB2:=Hd (below_via HBZ.o hb2);clear hb2;go_wp2_with fail
        go_returns
        exact⟨by rw[HR.o];rfl,HB2.o⟩
       go_wp2_with fail
       with_reducible refine(withinc _ _ _ true _ q0).mono ?_
       rintro e w' ⟨rfl,rfl⟩;go_wp2_with fail
       with_reducible refine(withinc _ _ _ true _ q1).mono ?_
       rintro e w' ⟨rfl,rfl⟩;go_wp2_with fail
       with_reducible refine(withinc _ _ _ true _ q2).mono ?_
       rintro e w' ⟨rfl,rfl⟩;go_wp2_with fail
       with_reducible refine(withinc _ _ _ true _ q3).mono ?_
       rintro e w' ⟨rfl,rfl⟩;go_wp2_with fail
       with_reducible refine HA.o.mono ?_
       rintro e w2 ⟨rfl,hb2⟩;have HB2:=Hd (below_via HBZ.o hb2);clear hb2;go_wp2_with fail
       go_returns
       exact⟨by rw[HR.o];rfl,HB2.o⟩
      have r6:decide (x.tr>=0)=false:=decide_eq_false h8
      obtain rfl:q=false:=by cases q with
       |false=>rfl
       |true=>exact absurd ⟨rfl,by omega⟩ h7
      have HA:=Hd (badtg (.slice sa n sc) x.tg _ wz (HT.o.below HBZ.o) rfl);clear h5 h6 h7 h8;go_wp2_with fail
      with_reducible refine(withinc _ _ _ true _ q0).mono ?_
      rintro e w' ⟨rfl,rfl⟩;go_wp2_with fail
      with_reducible refine(withinc _ _ _ true _ q1).mono ?_
      rintro e w' ⟨rfl,rfl⟩;go_wp2_with fail
      with_reducible refine(withinc _ _ _ true _ q2).mono ?_
      rintro e w' ⟨rfl,rfl⟩;go_wp2_with fail
      with_reducible refine(withinc _ _ _ true _ q3).mono ?_
      rintro e w' ⟨rfl,rfl⟩;go_wp2_with fail
      with_reducible refine HA.o.mono ?_
      rintro e w2 ⟨rfl,hb2⟩;have HB2:=Hd (below_via HBZ.o hb2);clear hb2;go_wp2_with fail
      go_returns
      exact⟨by rw[HR.o];rfl,HB2.o⟩
     have r5:decide ((n:Int)>4)=true:=decide_eq_true (by omega);have HR:Hid (itB x q=false):=Hd (itB_false (fun h=>by have:=h.2.2.2.2.1;have:=HN.o;omega));clear h5;go_wp2_with fail
     with_reducible refine(withinc _ _ _ true _ q0).mono ?_
     rintro e w' ⟨rfl,rfl⟩;go_wp2_with fail
     with_reducible refine(withinc _ _ _ true _ q1).mono ?_
     rintro e w' ⟨rfl,rfl⟩;go_wp2_with fail
     with_reducible refine(withinc _ _ _ true _ q2).mono ?_
     rintro e w' ⟨rfl,rfl⟩;go_wp2_with fail
     with_reducible refine(withinc _ _ _ true _ q3).mono ?_
     rintro e w' ⟨rfl,rfl⟩;go_wp2_with fail
     go_returns
     exact⟨by rw[HR.o];rfl,HBZ.o⟩
    have q3:decide ((-1:Int)<=x.tr/\x.tr<=1)=false:=decide_eq_false h3;have HR:Hid (itB x q=false):=Hd (itB_false (fun h=>h3 h.2.2.2.1));go_wp2_with fail
    with_reducible refine(withinc _ _ _ true _ q0).mono ?_
    rintro e w' ⟨rfl,rfl⟩;go_wp2_with fail
    with_reducible refine(withinc _ _ _ true _ q1).mono ?_
    rintro e w' ⟨rfl,rfl⟩;go_wp2_with fail
    with_reducible refine(withinc _ _ _ true _ q2).mono ?_
    rintro e w' ⟨rfl,rfl⟩;go_wp2_with fail
    with_reducible refine(withinc _ _ _ false _ q3).mono ?_
    rintro e w' ⟨rfl,rfl⟩;go_wp2_with fail
    go_returns
    exact⟨by rw[HR.o];rfl,HBZ.o⟩
   have q2:decide ((0:Int)<=x.cd/\x.cd<=399)=false:=decide_eq_false h2;have HR:Hid (itB x q=false):=Hd (itB_false (fun h=>h2 h.2.2.1));go_wp2_with fail
   with_reducible refine(withinc _ _ _ true _ q0).mono ?_
   rintro e w' ⟨rfl,rfl⟩;go_wp2_with fail
   with_reducible refine(withinc _ _ _ true _ q1).mono ?_
   rintro e w' ⟨rfl,rfl⟩;go_wp2_with fail
   with_reducible refine(withinc _ _ _ false _ q2).mono ?_
   rintro e w' ⟨rfl,rfl⟩;go_wp2_with fail
   go_returns
   exact⟨by rw[HR.o];rfl,HBZ.o⟩
  have q1:decide ((1:Int)<=x.id/\x.id<=500)=false:=decide_eq_false h1;have HR:Hid (itB x q=false):=Hd (itB_false (fun h=>h1 h.2.1));go_wp2_with fail
  with_reducible refine(withinc _ _ _ true _ q0).mono ?_
  rintro e w' ⟨rfl,rfl⟩;go_wp2_with fail
  with_reducible refine(withinc _ _ _ false _ q1).mono ?_
  rintro e w' ⟨rfl,rfl⟩;go_wp2_with fail
  go_returns
  exact⟨by rw[HR.o];rfl,HBZ.o⟩
 have q0:decide ((0:Int)<=x.pl/\x.pl<=1)=false:=decide_eq_false h0;have HR:Hid (itB x q=false):=Hd (itB_false (fun h=>h0 h.1));go_wp2_with fail
 with_reducible refine(withinc _ _ _ false _ q0).mono ?_
 rintro e w' ⟨rfl,rfl⟩;go_wp2_with fail
 go_returns
 exact⟨by rw[HR.o];rfl,HBZ.o⟩

end Go.Proofs.YtpbepnpnpopmfaaGreat
