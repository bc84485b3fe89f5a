/- Items that are not right, seats, by the code and by the reference. -/
import Derived.Test.YtpbepnpnpopmfaaGreatBF
import Derived.Deep.DeepCutAuto
import Derived.LoopTactic
open Go.RowKit Go.Proofs.YtpbepnpnpopmfaaGreat
set_option maxRecDepth 100000
set_option maxHeartbeats 4000000
namespace Go.Proofs.YtpbepnpnpopmfaaGreat
open Plain
set_option linter.unusedVariables false
set_option linter.unusedSimpArgs false

theorem badit_false(x:It)(s:Sl)(w:World)(ht:Rw tc 2 w s.v x.tg):Calls Tryz.prog 55 #[.agg #[.int .i64 x.pl,.int .i64 x.id,.int .i64 x.cd,.int .i64 x.tr,.slice s.a s.n s.c]] w fun e w' =>e= .returned (.bool (!itB x false))/\Below w.heap.size w w':=by
 go_enter Tryz.func55,Tryz.ntmps55
 go_upto_region 1 with fail
 obtain⟨wz,hwz⟩:∃W,W=w.alloc (.cells #[.int .i64 x.pl,.int .i64 x.id,.int .i64 x.cd,.int .i64 x.tr,.slice s.a s.n s.c] 73):=⟨_,rfl⟩
 have HBZ:Hid (Below w.heap.size w wz):=Hd (by rw[hwz];exact(Below.refl _ _).alloc (Nat.le_refl _) _);have c0:wz.cell? ⟨w.heap.size,0,none⟩=some (.int .i64 x.pl):=by rw[hwz];exact cell_of_row _ _ 0 _ 73 (0,0) (heap_alloc_new _ _)
 have c1:wz.cell? ⟨w.heap.size,1,none⟩=some (.int .i64 x.id):=by rw[hwz];exact cell_of_row _ _ 1 _ 73 (0,0) (heap_alloc_new _ _)
 have c2:wz.cell? ⟨w.heap.size,2,none⟩=some (.int .i64 x.cd):=by rw[hwz];exact cell_of_row _ _ 2 _ 73 (0,0) (heap_alloc_new _ _)
 have c3:wz.cell? ⟨w.heap.size,3,none⟩=some (.int .i64 x.tr):=by rw[hwz];exact cell_of_row _ _ 3 _ 73 (0,0) (heap_alloc_new _ _)
 have c4:wz.cell? ⟨w.heap.size,4,none⟩=some (.slice s.a s.n s.c):=by rw[hwz];exact cell_of_row _ _ 4 _ 73 (0,0) (heap_alloc_new _ _)
 rw[<-hwz];clear hwz;go_wp2_with fail
 with_reducible refine(fine x s false _ (ht.below HBZ.o)).mono ?_
 rintro e w2 ⟨rfl,hb2⟩;have HB2:=Hd (below_via HBZ.o hb2);clear hb2;go_wp2_with fail
 go_returns
 exact⟨rfl,HB2.o⟩
def bad_falseRel(w:World)(l:List (It×Sl))(i:Value)(wr:World):Prop:=∃k:Nat,k<=l.length/\i= .int .i64 k/\(l.take k).any (fun x=> !itB x.1 false)=false/\Below w.heap.size w wr
theorem bad_falseI(v:Value)(l:List (It×Sl))(w:World)(hs:Rw itc 5 w v l)(hx':∀x∈l,Rw tc 2 w x.2.v x.1.tg):Calls Tryz.prog 80 #[v,.func (.func 55) #[] #[]] w fun e w' =>(∃r:Int,e= .returned (.int .i64 r)/\decide (r>=0)=l.any (fun x=> !itB x.1 false))/\Below w.heap.size w w':=by
 obtain⟨hm,a0,c0,rfl,hf⟩:=hs.form
 have HF:=Hd hf;have HS:=Hd hs;clear hs hf;go_enter Tryz.func80,Tryz.ntmps80;go_wp2_with fail
 go_loopw [8] (fun i wr=>bad_falseRel w l i wr) (fun i _=>l.length-(intOf i).toNat)
 case atStart=>exact⟨0,Nat.zero_le _,rfl,rfl,Below.refl _ _⟩
 obtain⟨k,hk,rfl,hn,hb⟩:=hrel
 have HN:=Hd hn;have hzz:=hb.size;clear hn
 by_cases hlt2:k<l.length
 ·obtain⟨b,off,rfl,hlt,hc⟩:=HF.o (by omega)
  obtain⟨x,hx⟩:∃x,l[k]? =some x:=⟨_,List.getElem?_eq_getElem hlt2⟩
  have HX:=Hd hx;have d0:wr.cell? ⟨b,off+k*5,none⟩=some (.int .i64 x.1.pl):=(hb.cell (p:=⟨b,off+k*5,none⟩) hlt).trans (hc k x HX.o 0 _ rfl);have d1:wr.cell? ⟨b,off+k*5+1,none⟩=some (.int .i64 x.1.id):=(hb.cell (p:=⟨b,off+k*5+1,none⟩) hlt).trans (hc k x HX.o 1 _ rfl);have d2:wr.cell? ⟨b,off+k*5+2,none⟩=some (.int .i64 x.1.cd):=(hb.cell (p:=⟨b,off+k*5+2,none⟩) hlt).trans (hc k x HX.o 2 _ rfl);have d3:wr.cell? ⟨b,off+k*5+3,none⟩=some (.int .i64 x.1.tr):=(hb.cell (p:=⟨b,off+k*5+3,none⟩) hlt).trans (hc k x HX.o 3 _ rfl);have d4:wr.cell? ⟨b,off+k*5+4,none⟩=some (.slice x.2.a x.2.n x.2.c):=(hb.cell (p:=⟨b,off+k*5+4,none⟩) hlt).trans (hc k x HX.o 4 _ rfl);have i1:(0:Int)<=(k:Int):=by omega
  have i2:(k:Int)<(l.length:Int):=by omega
  have HM:=Hd (List.mem_of_getElem? hx);have HK:=Hd hlt2;have HBW:=Hd hb;have HC:Hid (Calls Tryz.prog 55 #[.agg #[.int .i64 x.1.pl,.int .i64 x.1.id,.int .i64 x.1.cd,.int .i64 x.1.tr,.slice x.2.a x.2.n x.2.c]] wr fun e w' =>e= .returned (.bool (!itB x.1 false))/\Below wr.heap.size wr w'):=Hd (badit_false x.1 x.2 wr ((hx' x HM.o).below HBW.o))
  obtain⟨p,hp⟩:∃p,(!itB x.1 false)=p:=⟨_,rfl⟩
  rw[hp] at HC
  have HP:=Hd hp;clear hc hx hp hb
  cases p
  ·go_wp2_with fail
   with_reducible refine HC.o.mono ?_
   rintro e w2 ⟨rfl,hb2⟩;have HB2:=Hd (below_via HBW.o hb2);clear hb2;go_wp2_with fail
   go_roundw
   case rel=>exact⟨k+1,by omega,by go_num,by rw[List.take_add_one,HX.o,List.any_append,HN.o];simp[HP.o],HB2.o⟩
   case measure=>simp[intOf];omega
  go_wp2_with fail
  with_reducible refine HC.o.mono ?_
  rintro e w2 ⟨rfl,hb2⟩;have HB2:=Hd (below_via HBW.o hb2);clear hb2;go_wp2_with fail
  go_returns
  exact⟨⟨k,rfl,by rw[List.any_eq_true.2 ⟨x,HM.o,HP.o⟩];simp⟩,HB2.o⟩
 obtain rfl:k=l.length:=by omega
 have HBW:=Hd hb;clear hb;go_wp2_with fail
 go_returns
 exact⟨⟨-1,rfl,by have:=HN.o;rw[List.take_length] at this;rw[this];rfl⟩,HBW.o⟩
theorem bad_false(v:Value)(l:List (It×Sl))(r:Bool)(w:World)(hs:Rw itc 5 w v l)(hx':∀x∈l,Rw tc 2 w x.2.v x.1.tg)(hr:l.any (fun x=> !itB x.1 false)=r):Calls Tryz.prog 54 #[v,.func (.func 55) #[] #[]] w fun e w' =>e= .returned (.bool r)/\Below w.heap.size w w':=by
 have HI:=Hd (bad_falseI v l w hs hx');rw[hr] at HI
 clear hs hr;go_enter Tryz.func54,Tryz.ntmps54;go_wp2_with fail
 with_reducible refine HI.o.mono ?_
 rintro e w2 ⟨⟨z,rfl,hz⟩,hb2⟩;have HZ:=Hd hz;have HB2:=Hd hb2;clear hz hb2;go_wp2_with fail
 go_returns
 exact⟨by rw[<-HZ.o];rfl,HB2.o⟩
theorem badl_false(v:Value)(l:List It)(r:Bool)(w:World)(h:ItR w v l)(hr:l.all (fun x=>itB x false)=r):Calls Tryz.prog 54 #[v,.func (.func 55) #[] #[]] w fun e w' =>e= .returned (.bool (!r))/\Below w.heap.size w w':=by
 obtain⟨l',rfl,h1,h2⟩:=h
 refine bad_false v l' (!r) w h1 h2 ?_;rw[<-hr,any_not,List.any_map,Bool.not_not]
 rfl
theorem badit_true(x:It)(s:Sl)(w:World)(ht:Rw tc 2 w s.v x.tg):Calls Tryz.prog 57 #[.agg #[.int .i64 x.pl,.int .i64 x.id,.int .i64 x.cd,.int .i64 x.tr,.slice s.a s.n s.c]] w fun e w' =>e= .returned (.bool (!itB x true))/\Below w.heap.size w w':=by
 go_enter Tryz.func57,Tryz.ntmps57
 go_upto_region 1 with fail
 obtain⟨wz,hwz⟩:∃W,W=w.alloc (.cells #[.int .i64 x.pl,.int .i64 x.id,.int .i64 x.cd,.int .i64 x.tr,.slice s.a s.n s.c] 73):=⟨_,rfl⟩
 have HBZ:Hid (Below w.heap.size w wz):=Hd (by rw[hwz];exact(Below.refl _ _).alloc (Nat.le_refl _) _);have c0:wz.cell? ⟨w.heap.size,0,none⟩=some (.int .i64 x.pl):=by rw[hwz];exact cell_of_row _ _ 0 _ 73 (0,0) (heap_alloc_new _ _)
 have c1:wz.cell? ⟨w.heap.size,1,none⟩=some (.int .i64 x.id):=by rw[hwz];exact cell_of_row _ _ 1 _ 73 (0,0) (heap_alloc_new _ _)
 have c2:wz.cell? ⟨w.heap.size,2,none⟩=some (.int .i64 x.cd):=by rw[hwz];exact cell_of_row _ _ 2 _ 73 (0,0) (heap_alloc_new _ _)
 have c3:wz.cell? ⟨w.heap.size,3,none⟩=some (.int .i64 x.tr):=by rw[hwz];exact cell_of_row _ _ 3 _ 73 (0,0) (heap_alloc_new _ _)
 have c4:wz.cell? ⟨w.heap.size,4,none⟩=some (.slice s.a s.n s.c):=by rw[hwz];exact cell_of_row _ _ 4 _ 73 (0,0) (heap_alloc_new _ _)
 rw[<-hwz];clear hwz;go_wp2_with fail
 with_reducible refine(fine x s true _ (ht.below HBZ.o)).mono ?_
 rintro e w2 ⟨rfl,hb2⟩;have HB2:=Hd (below_via HBZ.o hb2);clear hb2;go_wp2_with fail
 go_returns
 exact⟨rfl,HB2.o⟩
def bad_trueRel(w:World)(l:List (It×Sl))(i:Value)(wr:World):Prop:=∃k:Nat,k<=l.length/\i= .int .i64 k/\(l.take k).any (fun x=> !itB x.1 true)=false/\Below w.heap.size w wr
theorem bad_trueI(v:Value)(l:List (It×Sl))(w:World)(hs:Rw itc 5 w v l)(hx':∀x∈l,Rw tc 2 w x.2.v x.1.tg):Calls Tryz.prog 80 #[v,.func (.func 57) #[] #[]] w fun e w' =>(∃r:Int,e= .returned (.int .i64 r)/\decide (r>=0)=l.any (fun x=> !itB x.1 true))/\Below w.heap.size w w':=by
 obtain⟨hm,a0,c0,rfl,hf⟩:=hs.form
 have HF:=Hd hf;have HS:=Hd hs;clear hs hf;go_enter Tryz.func80,Tryz.ntmps80;go_wp2_with fail
 go_loopw [8] (fun i wr=>bad_trueRel w l i wr) (fun i _=>l.length-(intOf i).toNat)
 case atStart=>exact⟨0,Nat.zero_le _,rfl,rfl,Below.refl _ _⟩
 obtain⟨k,hk,rfl,hn,hb⟩:=hrel
 have HN:=Hd hn;have hzz:=hb.size;clear hn
 by_cases hlt2:k<l.length
 ·obtain⟨b,off,rfl,hlt,hc⟩:=HF.o (by omega)
  obtain⟨x,hx⟩:∃x,l[k]? =some x:=⟨_,List.getElem?_eq_getElem hlt2⟩
  have HX:=Hd hx;have d0:wr.cell? ⟨b,off+k*5,none⟩=some (.int .i64 x.1.pl):=(hb.cell (p:=⟨b,off+k*5,none⟩) hlt).trans (hc k x HX.o 0 _ rfl);have d1:wr.cell? ⟨b,off+k*5+1,none⟩=some (.int .i64 x.1.id):=(hb.cell (p:=⟨b,off+k*5+1,none⟩) hlt).trans (hc k x HX.o 1 _ rfl);have d2:wr.cell? ⟨b,off+k*5+2,none⟩=some (.int .i64 x.1.cd):=(hb.cell (p:=⟨b,off+k*5+2,none⟩) hlt).trans (hc k x HX.o 2 _ rfl);have d3:wr.cell? ⟨b,off+k*5+3,none⟩=some (.int .i64 x.1.tr):=(hb.cell (p:=⟨b,off+k*5+3,none⟩) hlt).trans (hc k x HX.o 3 _ rfl);have d4:wr.cell? ⟨b,off+k*5+4,none⟩=some (.slice x.2.a x.2.n x.2.c):=(hb.cell (p:=⟨b,off+k*5+4,none⟩) hlt).trans (hc k x HX.o 4 _ rfl);have i1:(0:Int)<=(k:Int):=by omega
  have i2:(k:Int)<(l.length:Int):=by omega
  have HM:=Hd (List.mem_of_getElem? hx);have HK:=Hd hlt2;have HBW:=Hd hb;have HC:Hid (Calls Tryz.prog 57 #[.agg #[.int .i64 x.1.pl,.int .i64 x.1.id,.int .i64 x.1.cd,.int .i64 x.1.tr,.slice x.2.a x.2.n x.2.c]] wr fun e w' =>e= .returned (.bool (!itB x.1 true))/\Below wr.heap.size wr w'):=Hd (badit_true x.1 x.2 wr ((hx' x HM.o).below HBW.o))
  obtain⟨p,hp⟩:∃p,(!itB x.1 true)=p:=⟨_,rfl⟩
  rw[hp] at HC
  have HP:=Hd hp;clear hc hx hp hb
  cases p
  ·go_wp2_with fail
   with_reducible refine HC.o.mono ?_
   rintro e w2 ⟨rfl,hb2⟩;have HB2:=Hd (below_via HBW.o hb2);clear hb2;go_wp2_with fail
   go_roundw
   case rel=>exact⟨k+1,by omega,by go_num,by rw[List.take_add_one,HX.o,List.any_append,HN.o];simp[HP.o],HB2.o⟩
   case measure=>simp[intOf];omega
  go_wp2_with fail
  with_reducible refine HC.o.mono ?_
  rintro e w2 ⟨rfl,hb2⟩;have HB2:=Hd (below_via HBW.o hb2);clear hb2;go_wp2_with fail
  go_returns
  exact⟨⟨k,rfl,by rw[List.any_eq_true.2 ⟨x,HM.o,HP.o⟩];simp⟩,HB2.o⟩
 obtain rfl:k=l.length:=by omega
 have HBW:=Hd hb;clear hb;go_wp2_with fail
 go_returns
 exact⟨⟨-1,rfl,by have:=HN.o;rw[List.take_length] at this;rw[this];rfl⟩,HBW.o⟩
theorem bad_true(v:Value)(l:List (It×Sl))(r:Bool)(w:World)(hs:Rw itc 5 w v l)(hx':∀x∈l,Rw tc 2 w x.2.v x.1.tg)(hr:l.any (fun x=> !itB x.1 true)=r):Calls Tryz.prog 54 #[v,.func (.func 57) #[] #[]] w fun e w' =>e= .returned (.bool r)/\Below w.heap.size w w':=by
 have HI:=Hd (bad_trueI v l w hs hx');rw[hr] at HI
 clear hs hr;go_enter Tryz.func54,Tryz.ntmps54;go_wp2_with fail
 with_reducible refine HI.o.mono ?_
 rintro e w2 ⟨⟨z,rfl,hz⟩,hb2⟩;have HZ:=Hd hz;have HB2:=Hd hb2;clear hz hb2;go_wp2_with fail
 go_returns
 exact⟨by rw[<-HZ.o];rfl,HB2.o⟩
theorem badl_true(v:Value)(l:List It)(r:Bool)(w:World)(h:ItR w v l)(hr:l.all (fun x=>itB x true)=r):Calls Tryz.prog 54 #[v,.func (.func 57) #[] #[]] w fun e w' =>e= .returned (.bool (!r))/\Below w.heap.size w w':=by
 obtain⟨l',rfl,h1,h2⟩:=h
 refine bad_true v l' (!r) w h1 h2 ?_;rw[<-hr,any_not,List.any_map,Bool.not_not]
 rfl
theorem mwithin(a b c d:Int)(w:World):Calls Tryz.prog 79 #[.agg #[.int .i64 a,.int .i64 b,.int .i64 c,.int .i64 d],.int .i64 99] w fun e w' =>e= .returned (.bool (decide ((0<=a/\a<=99)/\(0<=b/\b<=99)/\(0<=c/\c<=99)/\(0<=d/\d<=99))))/\Below w.heap.size w w':=by
 have i0:∀w,(Instr.index 25 (.agg #[.int .i64 a,.int .i64 b,.int .i64 c,.int .i64 d]) (.int .i64 0)).run Tryz.prog w= .ok (.int .i64 a) w:=fun _=>by kernel_rfl
 have i1:∀w,(Instr.index 25 (.agg #[.int .i64 a,.int .i64 b,.int .i64 c,.int .i64 d]) (.int .i64 1)).run Tryz.prog w= .ok (.int .i64 b) w:=fun _=>by kernel_rfl
 have i2:∀w,(Instr.index 25 (.agg #[.int .i64 a,.int .i64 b,.int .i64 c,.int .i64 d]) (.int .i64 2)).run Tryz.prog w= .ok (.int .i64 c) w:=fun _=>by kernel_rfl
 have i3:∀w,(Instr.index 25 (.agg #[.int .i64 a,.int .i64 b,.int .i64 c,.int .i64 d]) (.int .i64 3)).run Tryz.prog w= .ok (.int .i64 d) w:=fun _=>by kernel_rfl
 by_cases a0:a<0
 ·skip
  go_enter Tryz.func79,Tryz.ntmps79;go_wp2_with fail
  refine wp_loop_rounds 1 ?_;rw[rounds_succ];go_wp2_with fail
  all_goals
   go_returns
   exact⟨ret_bool (by first|exact(decide_eq_true (by omega)).symm|exact(decide_eq_false (by omega)).symm),by go_grown⟩
 by_cases b0:99<a
 ·have c0:0<=a:=by omega
  go_enter Tryz.func79,Tryz.ntmps79;go_wp2_with fail
  refine wp_loop_rounds 1 ?_;rw[rounds_succ];go_wp2_with fail
  all_goals
   go_returns
   exact⟨ret_bool (by first|exact(decide_eq_true (by omega)).symm|exact(decide_eq_false (by omega)).symm),by go_grown⟩
 have c0:0<=a:=by omega
 by_cases a1:b<0
 ·skip
  go_enter Tryz.func79,Tryz.ntmps79;go_wp2_with fail
  refine wp_loop_rounds 2 ?_;rw[rounds_succ];go_wp2_with fail
  rw[rounds_succ];go_wp2_with fail
  all_goals
   go_returns
   exact⟨ret_bool (by first|exact(decide_eq_true (by omega)).symm|exact(decide_eq_false (by omega)).symm),by go_grown⟩
 by_cases b1:99<b
 ·have c1:0<=b:=by omega
  go_enter Tryz.func79,Tryz.ntmps79;go_wp2_with fail
  refine wp_loop_rounds 2 ?_;rw[rounds_succ];go_wp2_with fail
  rw[rounds_succ];go_wp2_with fail
  all_goals
   go_returns
   exact⟨ret_bool (by first|exact(decide_eq_true (by omega)).symm|exact(decide_eq_false (by omega)).symm),by go_grown⟩
 have c1:0<=b:=by omega
 by_cases a2:c<0
 ·skip
  go_enter Tryz.func79,Tryz.ntmps79;go_wp2_with fail
  refine wp_loop_rounds 3 ?_;rw[rounds_succ];go_wp2_with fail
  rw[rounds_succ];go_wp2_with fail
  rw[rounds_succ];go_wp2_with fail
  all_goals
   go_returns
   exact⟨ret_bool (by first|exact(decide_eq_true (by omega)).symm|exact(decide_eq_false (by omega)).symm),by go_grown⟩
 by_cases b2:99<c
 ·have c2:0<=c:=by omega
  go_enter Tryz.func79,Tryz.ntmps79;go_wp2_with fail
  refine wp_loop_rounds 3 ?_;rw[rounds_succ];go_wp2_with fail
  rw[rounds_succ];go_wp2_with fail
  rw[rounds_succ];go_wp2_with fail
  all_goals
   go_returns
   exact⟨ret_bool (by first|exact(decide_eq_true (by omega)).symm|exact(decide_eq_false (by omega)).symm),by go_grown⟩
 have c2:0<=c:=by omega
 by_cases a3:d<0
 ·skip
  go_enter Tryz.func79,Tryz.ntmps79;go_wp2_with fail
  refine wp_loop_rounds 4 ?_;rw[rounds_succ];go_wp2_with fail
  rw[rounds_succ];go_wp2_with fail
  rw[rounds_succ];go_wp2_with fail
  rw[rounds_succ];go_wp2_with fail
  all_goals
   go_returns
   exact⟨ret_bool (by first|exact(decide_eq_true (by omega)).symm|exact(decide_eq_false (by omega)).symm),by go_grown⟩
 by_cases b3:99<d
 ·have c3:0<=d:=by omega
  go_enter Tryz.func79,Tryz.ntmps79;go_wp2_with fail
  refine wp_loop_rounds 4 ?_;rw[rounds_succ];go_wp2_with fail
  rw[rounds_succ];go_wp2_with fail
  rw[rounds_succ];go_wp2_with fail
  rw[rounds_succ];go_wp2_with fail
  all_goals
   go_returns
   exact⟨ret_bool (by first|exact(decide_eq_true (by omega)).symm|exact(decide_eq_false (by omega)).symm),by go_grown⟩
 have c3:0<=d:=by omega
 go_enter Tryz.func79,Tryz.ntmps79;go_wp2_with fail
 refine wp_loop_rounds 5 ?_;rw[rounds_succ];go_wp2_with fail
 rw[rounds_succ];go_wp2_with fail
 rw[rounds_succ];go_wp2_with fail
 rw[rounds_succ];go_wp2_with fail
 rw[rounds_succ];go_wp2_with fail
 all_goals
  go_returns
  exact⟨ret_bool (by first|exact(decide_eq_true (by omega)).symm|exact(decide_eq_false (by omega)).symm),by go_grown⟩

theorem mvalid(a b c d:Int)(r:Bool)(w:World)(h:decide ((0<=a/\a<=99)/\(0<=b/\b<=99)/\(0<=c/\c<=99)/\(0<=d/\d<=99))=r):Calls Tryz.prog 53 #[.agg #[.int .i64 a,.int .i64 b,.int .i64 c,.int .i64 d]] w fun e w' =>e= .returned (.bool r)/\Below w.heap.size w w':=by
 have HW:=Hd (mwithin a b c d);rw[h] at HW
 clear h;go_enter Tryz.func53,Tryz.ntmps53;go_wp2_with fail
 with_reducible refine(HW.o _).mono ?_
 rintro e w2 ⟨rfl,hb2⟩;go_wp2_with fail
 go_returns
 exact⟨rfl,((Below.refl _ _).alloc (Nat.le_refl _) _).trans (hb2.mono (by simp))⟩
theorem rseat(l h f g:Sl)(S:Se)(w:World):Calls Tryz.prog 24 #[sev l h f g S] w fun e w' =>e= .returned (.bool (seB S))/\Below w.heap.size w w':=by
 have i0:∀w,(Instr.index 25 (.agg #[.int .i64 S.p0,.int .i64 S.p1,.int .i64 S.p2,.int .i64 S.p3]) (.int .i64 0)).run Tryz.prog w= .ok (.int .i64 S.p0) w:=fun _=>by kernel_rfl
 have i1:∀w,(Instr.index 25 (.agg #[.int .i64 S.p0,.int .i64 S.p1,.int .i64 S.p2,.int .i64 S.p3]) (.int .i64 1)).run Tryz.prog w= .ok (.int .i64 S.p1) w:=fun _=>by kernel_rfl
 have i2:∀w,(Instr.index 25 (.agg #[.int .i64 S.p0,.int .i64 S.p1,.int .i64 S.p2,.int .i64 S.p3]) (.int .i64 2)).run Tryz.prog w= .ok (.int .i64 S.p2) w:=fun _=>by kernel_rfl
 have i3:∀w,(Instr.index 25 (.agg #[.int .i64 S.p0,.int .i64 S.p1,.int .i64 S.p2,.int .i64 S.p3]) (.int .i64 3)).run Tryz.prog w= .ok (.int .i64 S.p3) w:=fun _=>by kernel_rfl
 by_cases a0:S.p0<0
 ·skip
  go_enter Tryz.func24,Tryz.ntmps24
  go_upto_region 1 with fail
  change Code.wp Tryz.prog _ _ _ (w.alloc (.cells #[.int .i64 S.li,.int .i64 S.p0,.int .i64 S.p1,.int .i64 S.p2,.int .i64 S.p3,l.v,h.v,f.v,g.v,.bool S.em,.bool S.py,.bool S.kp,.int .i64 S.mu,.int .i64 S.ac] 28))
  obtain⟨wz,hwz⟩:∃W,W=w.alloc (.cells #[.int .i64 S.li,.int .i64 S.p0,.int .i64 S.p1,.int .i64 S.p2,.int .i64 S.p3,l.v,h.v,f.v,g.v,.bool S.em,.bool S.py,.bool S.kp,.int .i64 S.mu,.int .i64 S.ac] 28):=⟨_,rfl⟩
  have HBZ:Hid (Below w.heap.size w wz):=Hd (by rw[hwz];exact(Below.refl _ _).alloc (Nat.le_refl _) _);have k0:wz.cell? ⟨w.heap.size,0,none⟩=some (.int .i64 S.li):=by rw[hwz];exact cell_of_row _ _ 0 _ 28 (0,0) (heap_alloc_new _ _)
  have k1:wz.cell? ⟨w.heap.size,1,none⟩=some (.int .i64 S.p0):=by rw[hwz];exact cell_of_row _ _ 1 _ 28 (0,0) (heap_alloc_new _ _)
  have k2:wz.cell? ⟨w.heap.size,2,none⟩=some (.int .i64 S.p1):=by rw[hwz];exact cell_of_row _ _ 2 _ 28 (0,0) (heap_alloc_new _ _)
  have k3:wz.cell? ⟨w.heap.size,3,none⟩=some (.int .i64 S.p2):=by rw[hwz];exact cell_of_row _ _ 3 _ 28 (0,0) (heap_alloc_new _ _)
  have k4:wz.cell? ⟨w.heap.size,4,none⟩=some (.int .i64 S.p3):=by rw[hwz];exact cell_of_row _ _ 4 _ 28 (0,0) (heap_alloc_new _ _)
  have k12:wz.cell? ⟨w.heap.size,12,none⟩=some (.int .i64 S.mu):=by rw[hwz];exact cell_of_row _ _ 12 _ 28 (0,0) (heap_alloc_new _ _)
  have k13:wz.cell? ⟨w.heap.size,13,none⟩=some (.int .i64 S.ac):=by rw[hwz];exact cell_of_row _ _ 13 _ 28 (0,0) (heap_alloc_new _ _)
  rw[<-hwz];clear hwz;go_wp2_with fail
  refine wp_loop_rounds 1 ?_;rw[rounds_succ];go_wp2_with fail
  all_goals
   go_returns
   exact⟨ret_bool (by unfold seB poolB;first|(rw[decide_eq_false (p:=(_/\_)/\_/\_/\_) (by omega)];simp)|(rw[Bool.eq_iff_iff];simp;omega)),HBZ.o⟩
 by_cases b0:99<S.p0
 ·have c0:0<=S.p0:=by omega
  go_enter Tryz.func24,Tryz.ntmps24
  go_upto_region 1 with fail
  change Code.wp Tryz.prog _ _ _ (w.alloc (.cells #[.int .i64 S.li,.int .i64 S.p0,.int .i64 S.p1,.int .i64 S.p2,.int .i64 S.p3,l.v,h.v,f.v,g.v,.bool S.em,.bool S.py,.bool S.kp,.int .i64 S.mu,.int .i64 S.ac] 28))
  obtain⟨wz,hwz⟩:∃W,W=w.alloc (.cells #[.int .i64 S.li,.int .i64 S.p0,.int .i64 S.p1,.int .i64 S.p2,.int .i64 S.p3,l.v,h.v,f.v,g.v,.bool S.em,.bool S.py,.bool S.kp,.int .i64 S.mu,.int .i64 S.ac] 28):=⟨_,rfl⟩
  have HBZ:Hid (Below w.heap.size w wz):=Hd (by rw[hwz];exact(Below.refl _ _).alloc (Nat.le_refl _) _);have k0:wz.cell? ⟨w.heap.size,0,none⟩=some (.int .i64 S.li):=by rw[hwz];exact cell_of_row _ _ 0 _ 28 (0,0) (heap_alloc_new _ _)
  have k1:wz.cell? ⟨w.heap.size,1,none⟩=some (.int .i64 S.p0):=by rw[hwz];exact cell_of_row _ _ 1 _ 28 (0,0) (heap_alloc_new _ _)
  have k2:wz.cell? ⟨w.heap.size,2,none⟩=some (.int .i64 S.p1):=by rw[hwz];exact cell_of_row _ _ 2 _ 28 (0,0) (heap_alloc_new _ _)
  have k3:wz.cell? ⟨w.heap.size,3,none⟩=some (.int .i64 S.p2):=by rw[hwz];exact cell_of_row _ _ 3 _ 28 (0,0) (heap_alloc_new _ _)
  have k4:wz.cell? ⟨w.heap.size,4,none⟩=some (.int .i64 S.p3):=by rw[hwz];exact cell_of_row _ _ 4 _ 28 (0,0) (heap_alloc_new _ _)
  have k12:wz.cell? ⟨w.heap.size,12,none⟩=some (.int .i64 S.mu):=by rw[hwz];exact cell_of_row _ _ 12 _ 28 (0,0) (heap_alloc_new _ _)
  have k13:wz.cell? ⟨w.heap.size,13,none⟩=some (.int .i64 S.ac):=by rw[hwz];exact cell_of_row _ _ 13 _ 28 (0,0) (heap_alloc_new _ _)
  rw[<-hwz];clear hwz;go_wp2_with fail
  refine wp_loop_rounds 1 ?_;rw[rounds_succ];go_wp2_with fail
  all_goals
   go_returns
   exact⟨ret_bool (by unfold seB poolB;first|(rw[decide_eq_false (p:=(_/\_)/\_/\_/\_) (by omega)];simp)|(rw[Bool.eq_iff_iff];simp;omega)),HBZ.o⟩
 have c0:0<=S.p0:=by omega
 by_cases a1:S.p1<0
 ·skip
  go_enter Tryz.func24,Tryz.ntmps24
  go_upto_region 1 with fail
  change Code.wp Tryz.prog _ _ _ (w.alloc (.cells #[.int .i64 S.li,.int .i64 S.p0,.int .i64 S.p1,.int .i64 S.p2,.int .i64 S.p3,l.v,h.v,f.v,g.v,.bool S.em,.bool S.py,.bool S.kp,.int .i64 S.mu,.int .i64 S.ac] 28))
  obtain⟨wz,hwz⟩:∃W,W=w.alloc (.cells #[.int .i64 S.li,.int .i64 S.p0,.int .i64 S.p1,.int .i64 S.p2,.int .i64 S.p3,l.v,h.v,f.v,g.v,.bool S.em,.bool S.py,.bool S.kp,.int .i64 S.mu,.int .i64 S.ac] 28):=⟨_,rfl⟩
  have HBZ:Hid (Below w.heap.size w wz):=Hd (by rw[hwz];exact(Below.refl _ _).alloc (Nat.le_refl _) _);have k0:wz.cell? ⟨w.heap.size,0,none⟩=some (.int .i64 S.li):=by rw[hwz];exact cell_of_row _ _ 0 _ 28 (0,0) (heap_alloc_new _ _)
  have k1:wz.cell? ⟨w.heap.size,1,none⟩=some (.int .i64 S.p0):=by rw[hwz];exact cell_of_row _ _ 1 _ 28 (0,0) (heap_alloc_new _ _)
  have k2:wz.cell? ⟨w.heap.size,2,none⟩=some (.int .i64 S.p1):=by rw[hwz];exact cell_of_row _ _ 2 _ 28 (0,0) (heap_alloc_new _ _)
  have k3:wz.cell? ⟨w.heap.size,3,none⟩=some (.int .i64 S.p2):=by rw[hwz];exact cell_of_row _ _ 3 _ 28 (0,0) (heap_alloc_new _ _)
  have k4:wz.cell? ⟨w.heap.size,4,none⟩=some (.int .i64 S.p3):=by rw[hwz];exact cell_of_row _ _ 4 _ 28 (0,0) (heap_alloc_new _ _)
  have k12:wz.cell? ⟨w.heap.size,12,none⟩=some (.int .i64 S.mu):=by rw[hwz];exact cell_of_row _ _ 12 _ 28 (0,0) (heap_alloc_new _ _)
  have k13:wz.cell? ⟨w.heap.size,13,none⟩=some (.int .i64 S.ac):=by rw[hwz];exact cell_of_row _ _ 13 _ 28 (0,0) (heap_alloc_new _ _)
  rw[<-hwz];clear hwz;go_wp2_with fail
  refine wp_loop_rounds 2 ?_;rw[rounds_succ];go_wp2_with fail
  rw[rounds_succ];go_wp2_with fail
  all_goals
   go_returns
   exact⟨ret_bool (by unfold seB poolB;first|(rw[decide_eq_false (p:=(_/\_)/\_/\_/\_) (by omega)];simp)|(rw[Bool.eq_iff_iff];simp;omega)),HBZ.o⟩
 by_cases b1:99<S.p1
 ·have c1:0<=S.p1:=by omega
  go_enter Tryz.func24,Tryz.ntmps24
  go_upto_region 1 with fail
  change Code.wp Tryz.prog _ _ _ (w.alloc (.cells #[.int .i64 S.li,.int .i64 S.p0,.int .i64 S.p1,.int .i64 S.p2,.int .i64 S.p3,l.v,h.v,f.v,g.v,.bool S.em,.bool S.py,.bool S.kp,.int .i64 S.mu,.int .i64 S.ac] 28))
  obtain⟨wz,hwz⟩:∃W,W=w.alloc (.cells #[.int .i64 S.li,.int .i64 S.p0,.int .i64 S.p1,.int .i64 S.p2,.int .i64 S.p3,l.v,h.v,f.v,g.v,.bool S.em,.bool S.py,.bool S.kp,.int .i64 S.mu,.int .i64 S.ac] 28):=⟨_,rfl⟩
  have HBZ:Hid (Below w.heap.size w wz):=Hd (by rw[hwz];exact(Below.refl _ _).alloc (Nat.le_refl _) _);have k0:wz.cell? ⟨w.heap.size,0,none⟩=some (.int .i64 S.li):=by rw[hwz];exact cell_of_row _ _ 0 _ 28 (0,0) (heap_alloc_new _ _)
  have k1:wz.cell? ⟨w.heap.size,1,none⟩=some (.int .i64 S.p0):=by rw[hwz];exact cell_of_row _ _ 1 _ 28 (0,0) (heap_alloc_new _ _)
  have k2:wz.cell? ⟨w.heap.size,2,none⟩=some (.int .i64 S.p1):=by rw[hwz];exact cell_of_row _ _ 2 _ 28 (0,0) (heap_alloc_new _ _)
  have k3:wz.cell? ⟨w.heap.size,3,none⟩=some (.int .i64 S.p2):=by rw[hwz];exact cell_of_row _ _ 3 _ 28 (0,0) (heap_alloc_new _ _)
  have k4:wz.cell? ⟨w.heap.size,4,none⟩=some (.int .i64 S.p3):=by rw[hwz];exact cell_of_row _ _ 4 _ 28 (0,0) (heap_alloc_new _ _)
  have k12:wz.cell? ⟨w.heap.size,12,none⟩=some (.int .i64 S.mu):=by rw[hwz];exact cell_of_row _ _ 12 _ 28 (0,0) (heap_alloc_new _ _)
  have k13:wz.cell? ⟨w.heap.size,13,none⟩=some (.int .i64 S.ac):=by rw[hwz];exact cell_of_row _ _ 13 _ 28 (0,0) (heap_alloc_new _ _)
  rw[<-hwz];clear hwz;go_wp2_with fail
  refine wp_loop_rounds 2 ?_;rw[rounds_succ];go_wp2_with fail
  rw[rounds_succ];go_wp2_with fail
  all_goals
   go_returns
   exact⟨ret_bool (by unfold seB poolB;first|(rw[decide_eq_false (p:=(_/\_)/\_/\_/\_) (by omega)];simp)|(rw[Bool.eq_iff_iff];simp;omega)),HBZ.o⟩
 have c1:0<=S.p1:=by omega
 by_cases a2:S.p2<0
 ·skip
  go_enter Tryz.func24,Tryz.ntmps24
  go_upto_region 1 with fail
  change Code.wp Tryz.prog _ _ _ (w.alloc (.cells #[.int .i64 S.li,.int .i64 S.p0,.int .i64 S.p1,.int .i64 S.p2,.int .i64 S.p3,l.v,h.v,f.v,g.v,.bool S.em,.bool S.py,.bool S.kp,.int .i64 S.mu,.int .i64 S.ac] 28))
  obtain⟨wz,hwz⟩:∃W,W=w.alloc (.cells #[.int .i64 S.li,.int .i64 S.p0,.int .i64 S.p1,.int .i64 S.p2,.int .i64 S.p3,l.v,h.v,f.v,g.v,.bool S.em,.bool S.py,.bool S.kp,.int .i64 S.mu,.int .i64 S.ac] 28):=⟨_,rfl⟩
  have HBZ:Hid (Below w.heap.size w wz):=Hd (by rw[hwz];exact(Below.refl _ _).alloc (Nat.le_refl _) _);have k0:wz.cell? ⟨w.heap.size,0,none⟩=some (.int .i64 S.li):=by rw[hwz];exact cell_of_row _ _ 0 _ 28 (0,0) (heap_alloc_new _ _)
  have k1:wz.cell? ⟨w.heap.size,1,none⟩=some (.int .i64 S.p0):=by rw[hwz];exact cell_of_row _ _ 1 _ 28 (0,0) (heap_alloc_new _ _)
  have k2:wz.cell? ⟨w.heap.size,2,none⟩=some (.int .i64 S.p1):=by rw[hwz];exact cell_of_row _ _ 2 _ 28 (0,0) (heap_alloc_new _ _)
  have k3:wz.cell? ⟨w.heap.size,3,none⟩=some (.int .i64 S.p2):=by rw[hwz];exact cell_of_row _ _ 3 _ 28 (0,0) (heap_alloc_new _ _)
  have k4:wz.cell? ⟨w.heap.size,4,none⟩=some (.int .i64 S.p3):=by rw[hwz];exact cell_of_row _ _ 4 _ 28 (0,0) (heap_alloc_new _ _)
  have k12:wz.cell? ⟨w.heap.size,12,none⟩=some (.int .i64 S.mu):=by rw[hwz];exact cell_of_row _ _ 12 _ 28 (0,0) (heap_alloc_new _ _)
  have k13:wz.cell? ⟨w.heap.size,13,none⟩=some (.int .i64 S.ac):=by rw[hwz];exact cell_of_row _ _ 13 _ 28 (0,0) (heap_alloc_new _ _)
  rw[<-hwz];clear hwz;go_wp2_with fail
  refine wp_loop_rounds 3 ?_;rw[rounds_succ];go_wp2_with fail
  rw[rounds_succ];go_wp2_with fail
  rw[rounds_succ];go_wp2_with fail
  all_goals
   go_returns
   exact⟨ret_bool (by unfold seB poolB;first|(rw[decide_eq_false (p:=(_/\_)/\_/\_/\_) (by omega)];simp)|(rw[Bool.eq_iff_iff];simp;omega)),HBZ.o⟩
 by_cases b2:99<S.p2
 ·have c2:0<=S.p2:=by omega
  go_enter Tryz.func24,Tryz.ntmps24
  go_upto_region 1 with fail
  change Code.wp Tryz.prog _ _ _ (w.alloc (.cells #[.int .i64 S.li,.int .i64 S.p0,.int .i64 S.p1,.int .i64 S.p2,.int .i64 S.p3,l.v,h.v,f.v,g.v,.bool S.em,.bool S.py,.bool S.kp,.int .i64 S.mu,.int .i64 S.ac] 28))
  obtain⟨wz,hwz⟩:∃W,W=w.alloc (.cells #[.int .i64 S.li,.int .i64 S.p0,.int .i64 S.p1,.int .i64 S.p2,.int .i64 S.p3,l.v,h.v,f.v,g.v,.bool S.em,.bool S.py,.bool S.kp,.int .i64 S.mu,.int .i64 S.ac] 28):=⟨_,rfl⟩
  have HBZ:Hid (Below w.heap.size w wz):=Hd (by rw[hwz];exact(Below.refl _ _).alloc (Nat.le_refl _) _);have k0:wz.cell? ⟨w.heap.size,0,none⟩=some (.int .i64 S.li):=by rw[hwz];exact cell_of_row _ _ 0 _ 28 (0,0) (heap_alloc_new _ _)
  have k1:wz.cell? ⟨w.heap.size,1,none⟩=some (.int .i64 S.p0):=by rw[hwz];exact cell_of_row _ _ 1 _ 28 (0,0) (heap_alloc_new _ _)
  have k2:wz.cell? ⟨w.heap.size,2,none⟩=some (.int .i64 S.p1):=by rw[hwz];exact cell_of_row _ _ 2 _ 28 (0,0) (heap_alloc_new _ _)
  have k3:wz.cell? ⟨w.heap.size,3,none⟩=some (.int .i64 S.p2):=by rw[hwz];exact cell_of_row _ _ 3 _ 28 (0,0) (heap_alloc_new _ _)
  have k4:wz.cell? ⟨w.heap.size,4,none⟩=some (.int .i64 S.p3):=by rw[hwz];exact cell_of_row _ _ 4 _ 28 (0,0) (heap_alloc_new _ _)
  have k12:wz.cell? ⟨w.heap.size,12,none⟩=some (.int .i64 S.mu):=by rw[hwz];exact cell_of_row _ _ 12 _ 28 (0,0) (heap_alloc_new _ _)
  have k13:wz.cell? ⟨w.heap.size,13,none⟩=some (.int .i64 S.ac):=by rw[hwz];exact cell_of_row _ _ 13 _ 28 (0,0) (heap_alloc_new _ _)
  rw[<-hwz];clear hwz;go_wp2_with fail
  refine wp_loop_rounds 3 ?_;rw[rounds_succ];go_wp2_with fail
  rw[rounds_succ];go_wp2_with fail
  rw[rounds_succ];go_wp2_with fail
  all_goals
   go_returns
   exact⟨ret_bool (by unfold seB poolB;first|(rw[decide_eq_false (p:=(_/\_)/\_/\_/\_) (by omega)];simp)|(rw[Bool.eq_iff_iff];simp;omega)),HBZ.o⟩
 have c2:0<=S.p2:=by omega
 by_cases a3:S.p3<0
 ·skip
  go_enter Tryz.func24,Tryz.ntmps24
  go_upto_region 1 with fail
  change Code.wp Tryz.prog _ _ _ (w.alloc (.cells #[.int .i64 S.li,.int .i64 S.p0,.int .i64 S.p1,.int .i64 S.p2,.int .i64 S.p3,l.v,h.v,f.v,g.v,.bool S.em,.bool S.py,.bool S.kp,.int .i64 S.mu,.int .i64 S.ac] 28))
  obtain⟨wz,hwz⟩:∃W,W=w.alloc (.cells #[.int .i64 S.li,.int .i64 S.p0,.int .i64 S.p1,.int .i64 S.p2,.int .i64 S.p3,l.v,h.v,f.v,g.v,.bool S.em,.bool S.py,.bool S.kp,.int .i64 S.mu,.int .i64 S.ac] 28):=⟨_,rfl⟩
  have HBZ:Hid (Below w.heap.size w wz):=Hd (by rw[hwz];exact(Below.refl _ _).alloc (Nat.le_refl _) _);have k0:wz.cell? ⟨w.heap.size,0,none⟩=some (.int .i64 S.li):=by rw[hwz];exact cell_of_row _ _ 0 _ 28 (0,0) (heap_alloc_new _ _)
  have k1:wz.cell? ⟨w.heap.size,1,none⟩=some (.int .i64 S.p0):=by rw[hwz];exact cell_of_row _ _ 1 _ 28 (0,0) (heap_alloc_new _ _)
  have k2:wz.cell? ⟨w.heap.size,2,none⟩=some (.int .i64 S.p1):=by rw[hwz];exact cell_of_row _ _ 2 _ 28 (0,0) (heap_alloc_new _ _)
  have k3:wz.cell? ⟨w.heap.size,3,none⟩=some (.int .i64 S.p2):=by rw[hwz];exact cell_of_row _ _ 3 _ 28 (0,0) (heap_alloc_new _ _)
  have k4:wz.cell? ⟨w.heap.size,4,none⟩=some (.int .i64 S.p3):=by rw[hwz];exact cell_of_row _ _ 4 _ 28 (0,0) (heap_alloc_new _ _)
  have k12:wz.cell? ⟨w.heap.size,12,none⟩=some (.int .i64 S.mu):=by rw[hwz];exact cell_of_row _ _ 12 _ 28 (0,0) (heap_alloc_new _ _)
  have k13:wz.cell? ⟨w.heap.size,13,none⟩=some (.int .i64 S.ac):=by rw[hwz];exact cell_of_row _ _ 13 _ 28 (0,0) (heap_alloc_new _ _)
  rw[<-hwz];clear hwz;go_wp2_with fail
  refine wp_loop_rounds 4 ?_;rw[rounds_succ];go_wp2_with fail
  rw[rounds_succ];go_wp2_with fail
  rw[rounds_succ];go_wp2_with fail
  rw[rounds_succ];go_wp2_with fail
  all_goals
   go_returns
   exact⟨ret_bool (by unfold seB poolB;first|(rw[decide_eq_false (p:=(_/\_)/\_/\_/\_) (by omega)];simp)|(rw[Bool.eq_iff_iff];simp;omega)),HBZ.o⟩
 by_cases b3:99<S.p3
 ·have c3:0<=S.p3:=by omega
  go_enter Tryz.func24,Tryz.ntmps24
  go_upto_region 1 with fail
  change Code.wp Tryz.prog _ _ _ (w.alloc (.cells #[.int .i64 S.li,.int .i64 S.p0,.int .i64 S.p1,.int .i64 S.p2,.int .i64 S.p3,l.v,h.v,f.v,g.v,.bool S.em,.bool S.py,.bool S.kp,.int .i64 S.mu,.int .i64 S.ac] 28))
  obtain⟨wz,hwz⟩:∃W,W=w.alloc (.cells #[.int .i64 S.li,.int .i64 S.p0,.int .i64 S.p1,.int .i64 S.p2,.int .i64 S.p3,l.v,h.v,f.v,g.v,.bool S.em,.bool S.py,.bool S.kp,.int .i64 S.mu,.int .i64 S.ac] 28):=⟨_,rfl⟩
  have HBZ:Hid (Below w.heap.size w wz):=Hd (by rw[hwz];exact(Below.refl _ _).alloc (Nat.le_refl _) _);have k0:wz.cell? ⟨w.heap.size,0,none⟩=some (.int .i64 S.li):=by rw[hwz];exact cell_of_row _ _ 0 _ 28 (0,0) (heap_alloc_new _ _)
  have k1:wz.cell? ⟨w.heap.size,1,none⟩=some (.int .i64 S.p0):=by rw[hwz];exact cell_of_row _ _ 1 _ 28 (0,0) (heap_alloc_new _ _)
  have k2:wz.cell? ⟨w.heap.size,2,none⟩=some (.int .i64 S.p1):=by rw[hwz];exact cell_of_row _ _ 2 _ 28 (0,0) (heap_alloc_new _ _)
  have k3:wz.cell? ⟨w.heap.size,3,none⟩=some (.int .i64 S.p2):=by rw[hwz];exact cell_of_row _ _ 3 _ 28 (0,0) (heap_alloc_new _ _)
  have k4:wz.cell? ⟨w.heap.size,4,none⟩=some (.int .i64 S.p3):=by rw[hwz];exact cell_of_row _ _ 4 _ 28 (0,0) (heap_alloc_new _ _)
  have k12:wz.cell? ⟨w.heap.size,12,none⟩=some (.int .i64 S.mu):=by rw[hwz];exact cell_of_row _ _ 12 _ 28 (0,0) (heap_alloc_new _ _)
  have k13:wz.cell? ⟨w.heap.size,13,none⟩=some (.int .i64 S.ac):=by rw[hwz];exact cell_of_row _ _ 13 _ 28 (0,0) (heap_alloc_new _ _)
  rw[<-hwz];clear hwz;go_wp2_with fail
  refine wp_loop_rounds 4 ?_;rw[rounds_succ];go_wp2_with fail
  rw[rounds_succ];go_wp2_with fail
  rw[rounds_succ];go_wp2_with fail
  rw[rounds_succ];go_wp2_with fail
  all_goals
   go_returns
   exact⟨ret_bool (by unfold seB poolB;first|(rw[decide_eq_false (p:=(_/\_)/\_/\_/\_) (by omega)];simp)|(rw[Bool.eq_iff_iff];simp;omega)),HBZ.o⟩
 have c3:0<=S.p3:=by omega
 go_enter Tryz.func24,Tryz.ntmps24
 go_upto_region 1 with fail
 change Code.wp Tryz.prog _ _ _ (w.alloc (.cells #[.int .i64 S.li,.int .i64 S.p0,.int .i64 S.p1,.int .i64 S.p2,.int .i64 S.p3,l.v,h.v,f.v,g.v,.bool S.em,.bool S.py,.bool S.kp,.int .i64 S.mu,.int .i64 S.ac] 28))
 obtain⟨wz,hwz⟩:∃W,W=w.alloc (.cells #[.int .i64 S.li,.int .i64 S.p0,.int .i64 S.p1,.int .i64 S.p2,.int .i64 S.p3,l.v,h.v,f.v,g.v,.bool S.em,.bool S.py,.bool S.kp,.int .i64 S.mu,.int .i64 S.ac] 28):=⟨_,rfl⟩
 have HBZ:Hid (Below w.heap.size w wz):=Hd (by rw[hwz];exact(Below.refl _ _).alloc (Nat.le_refl _) _);have k0:wz.cell? ⟨w.heap.size,0,none⟩=some (.int .i64 S.li):=by rw[hwz];exact cell_of_row _ _ 0 _ 28 (0,0) (heap_alloc_new _ _)
 have k1:wz.cell? ⟨w.heap.size,1,none⟩=some (.int .i64 S.p0):=by rw[hwz];exact cell_of_row _ _ 1 _ 28 (0,0) (heap_alloc_new _ _)
 have k2:wz.cell? ⟨w.heap.size,2,none⟩=some (.int .i64 S.p1):=by rw[hwz];exact cell_of_row _ _ 2 _ 28 (0,0) (heap_alloc_new _ _)
 have k3:wz.cell? ⟨w.heap.size,3,none⟩=some (.int .i64 S.p2):=by rw[hwz];exact cell_of_row _ _ 3 _ 28 (0,0) (heap_alloc_new _ _)
 have k4:wz.cell? ⟨w.heap.size,4,none⟩=some (.int .i64 S.p3):=by rw[hwz];exact cell_of_row _ _ 4 _ 28 (0,0) (heap_alloc_new _ _)
 have k12:wz.cell? ⟨w.heap.size,12,none⟩=some (.int .i64 S.mu):=by rw[hwz];exact cell_of_row _ _ 12 _ 28 (0,0) (heap_alloc_new _ _)
 have k13:wz.cell? ⟨w.heap.size,13,none⟩=some (.int .i64 S.ac):=by rw[hwz];exact cell_of_row _ _ 13 _ 28 (0,0) (heap_alloc_new _ _)
 rw[<-hwz];clear hwz;go_wp2_with fail
 refine wp_loop_rounds 5 ?_;rw[rounds_succ];go_wp2_with fail
 rw[rounds_succ];go_wp2_with fail
 rw[rounds_succ];go_wp2_with fail
 rw[rounds_succ];go_wp2_with fail
 rw[rounds_succ];go_wp2_with fail
 all_goals
  go_returns
  exact⟨ret_bool (by unfold seB poolB;rw[Bool.eq_iff_iff];simp;omega),HBZ.o⟩

end Go.Proofs.YtpbepnpnpopmfaaGreat
