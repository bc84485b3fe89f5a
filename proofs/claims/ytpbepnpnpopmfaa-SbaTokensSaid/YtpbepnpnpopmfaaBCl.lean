/- Clone, and items that share no memory. -/
import Derived.Test.YtpbepnpnpopmfaaBOw
import Derived.Deep.DeepCutAuto
import Derived.LoopTactic
namespace Go.Proofs.Ytpbepnpnpopmfaa
open Go.RowKit Plain
set_option linter.unusedVariables false
set_option linter.unusedSimpArgs false

theorem infoO:(Try.prog.info? 42).map (fun i=>(i.zero,i.size,i.bytes))=some (some (.agg #[.int .i64 0,.int .i64 0,.int .i64 0,.int .i64 0,.int .i64 0,.int .i64 0,.int .i64 0,.int .i64 0,.int .i64 0,.bool false,.bool false,.bool false]),12,80):=by kernel_rfl
theorem infoI:(Try.prog.info? 3).map (fun i=>(i.zero,i.size,i.bytes))=some (some (.int .i64 0),1,8):=by kernel_rfl
theorem infoK:(Try.prog.info? 95).map (fun i=>(i.zero,i.size,i.bytes))=some (some (.agg #[.int .i64 0,.int .i64 0]),2,16):=by kernel_rfl
theorem infoX:(Try.prog.info? 45).map (fun i=>(i.zero,i.size,i.bytes))=some (some (.agg #[.int .i64 0,.int .i64 0,.int .i64 0,.int .i64 0,.slice none 0 0]),5,56):=by kernel_rfl
theorem infoT:(Try.prog.info? 86).map (fun i=>(i.zero,i.size,i.bytes))=some (some (.agg #[.int .i64 0,.int .i64 0]),2,16):=by kernel_rfl
/-- a copy in a row of our own -/
def ClA{α:Type}(f:α→List Value)(sz:Nat)(t:TypeId)(w:World)(l:List α)(e:Ending)(w':World):Prop:=∃a c,e= .returned (.slice a l.length c)∧Ox f sz t w.heap.size w'.heap.size w' (.slice a l.length c) l∧Below w.heap.size w w'
theorem ClA.of{α:Type}{f:α→List Value}{sz:Nat}{t:TypeId}{w w1:World}{l:List α}{v:Value}(h:Ow f sz t w1 w.heap.size v l)(hb:Below w.heap.size w w1):ClA f sz t w l (.returned v) w1:=by
 obtain⟨a,c,rfl⟩:=h.form
 exact⟨a,c,rfl,Ox.of h,hb⟩
set_option maxRecDepth 100000 in
set_option maxHeartbeats 4000000 in
theorem cloneO{l:List Ob}(v:Value)(w:World)(hs:Rw oc 12 w v l)(hl:l.length≤1000):Calls Try.prog 40 #[v] w (ClA oc 12 42 w l):=by
 have qT:∀(w:World) (a:Option Addr) (n c:Nat),(binOp .eql 23 (.slice a n c) (.slice none 0 0)).run Try.prog w= .ok (.bool a.isNone) w:=fun w a n c=>Lib.run_eql_slice_nil w 23 42 a n c 0 0 Try.underlying23
 have HS:=Lib.hid hs
 obtain⟨m1,a1,c1,rfl,_⟩:=hs.form
 clear hs
 cases a1 with
 |none=>
  have h0:l=[]:=by
   rcases HS.out with⟨h,_⟩|⟨_,_,_,_,_,h,_⟩
   ·exact h
   ·cases h
  subst h0;go_enter Try.func40,Try.ntmps40;go_wp2_with fail
  go_returns;exact ClA.of (Ow.nil _ _ _) (Below.refl _ _)
 |some a1=>
  go_enter Try.func40,Try.ntmps40;go_wp2_with (at_builtin;refine wpList_append_ow (f:=oc) (sz:=12) rfl _ _ 23 rfl w.heap.size 42 (.agg #[.int .i64 0,.int .i64 0,.int .i64 0,.int .i64 0,.int .i64 0,.int .i64 0,.int .i64 0,.int .i64 0,.int .i64 0,.bool false,.bool false,.bool false]) 80 Try.underlying23 infoO rfl (by decide) _ [] rfl (Ow.lit w 42 [] #[] rfl (by simp) _ (Nat.le_refl _) (by simp)) oc_ok _ l rfl (HS.out.below (by go_grown)) ?c2 ?c3 (by simp) ?_)
  case c2=>simp[maxLen];omega
  case c3=>simp;omega
  intro v' w1 hown hgrow _;have hb1:Below w.heap.size w w1:=((Below.refl _ w).alloc (Nat.le_refl _) _).grown hgrow (by simp) (fun k hk=>by simp[Value.ownBlock] at hk;omega)
  obtain⟨a',c',rfl⟩:=hown.form
  have HO:Hid (Ow oc 12 42 w1 w.heap.size (.slice a' ([]++l).length c') l):=Lib.hid hown;clear hown hgrow;go_wp2_with fail
  go_returns;exact ClA.of HO.out hb1
set_option maxRecDepth 100000 in
set_option maxHeartbeats 4000000 in
theorem cloneI{l:List Int}(v:Value)(w:World)(hs:Rw ic 1 w v l)(hl:l.length≤1000):Calls Try.prog 41 #[v] w (ClA ic 1 3 w l):=by
 have qT:∀(w:World) (a:Option Addr) (n c:Nat),(binOp .eql 26 (.slice a n c) (.slice none 0 0)).run Try.prog w= .ok (.bool a.isNone) w:=fun w a n c=>Lib.run_eql_slice_nil w 26 3 a n c 0 0 Try.underlying26
 have HS:=Lib.hid hs
 obtain⟨m1,a1,c1,rfl,_⟩:=hs.form
 clear hs
 cases a1 with
 |none=>
  have h0:l=[]:=by
   rcases HS.out with⟨h,_⟩|⟨_,_,_,_,_,h,_⟩
   ·exact h
   ·cases h
  subst h0;go_enter Try.func41,Try.ntmps41;go_wp2_with fail
  go_returns;exact ClA.of (Ow.nil _ _ _) (Below.refl _ _)
 |some a1=>
  go_enter Try.func41,Try.ntmps41;go_wp2_with (at_builtin;refine wpList_append_ow (f:=ic) (sz:=1) rfl _ _ 26 rfl w.heap.size 3 (.int .i64 0) 8 Try.underlying26 infoI rfl (by decide) _ [] rfl (Ow.lit w 3 [] #[] rfl (by simp) _ (Nat.le_refl _) (by simp)) ic_ok _ l rfl (HS.out.below (by go_grown)) ?c2 ?c3 (by simp) ?_)
  case c2=>simp[maxLen];omega
  case c3=>simp;omega
  intro v' w1 hown hgrow _;have hb1:Below w.heap.size w w1:=((Below.refl _ w).alloc (Nat.le_refl _) _).grown hgrow (by simp) (fun k hk=>by simp[Value.ownBlock] at hk;omega)
  obtain⟨a',c',rfl⟩:=hown.form
  have HO:Hid (Ow ic 1 3 w1 w.heap.size (.slice a' ([]++l).length c') l):=Lib.hid hown;clear hown hgrow;go_wp2_with fail
  go_returns;exact ClA.of HO.out hb1
set_option maxRecDepth 100000 in
set_option maxHeartbeats 4000000 in
theorem cloneK{l:List Bk}(v:Value)(w:World)(hs:Rw kc 2 w v l)(hl:l.length≤1000):Calls Try.prog 42 #[v] w (ClA kc 2 95 w l):=by
 have qT:∀(w:World) (a:Option Addr) (n c:Nat),(binOp .eql 31 (.slice a n c) (.slice none 0 0)).run Try.prog w= .ok (.bool a.isNone) w:=fun w a n c=>Lib.run_eql_slice_nil w 31 95 a n c 0 0 Try.underlying31
 have HS:=Lib.hid hs
 obtain⟨m1,a1,c1,rfl,_⟩:=hs.form
 clear hs
 cases a1 with
 |none=>
  have h0:l=[]:=by
   rcases HS.out with⟨h,_⟩|⟨_,_,_,_,_,h,_⟩
   ·exact h
   ·cases h
  subst h0;go_enter Try.func42,Try.ntmps42;go_wp2_with fail
  go_returns;exact ClA.of (Ow.nil _ _ _) (Below.refl _ _)
 |some a1=>
  go_enter Try.func42,Try.ntmps42;go_wp2_with (at_builtin;refine wpList_append_ow (f:=kc) (sz:=2) rfl _ _ 31 rfl w.heap.size 95 (.agg #[.int .i64 0,.int .i64 0]) 16 Try.underlying31 infoK rfl (by decide) _ [] rfl (Ow.lit w 95 [] #[] rfl (by simp) _ (Nat.le_refl _) (by simp)) kc_ok _ l rfl (HS.out.below (by go_grown)) ?c2 ?c3 (by simp) ?_)
  case c2=>simp[maxLen];omega
  case c3=>simp;omega
  intro v' w1 hown hgrow _;have hb1:Below w.heap.size w w1:=((Below.refl _ w).alloc (Nat.le_refl _) _).grown hgrow (by simp) (fun k hk=>by simp[Value.ownBlock] at hk;omega)
  obtain⟨a',c',rfl⟩:=hown.form
  have HO:Hid (Ow kc 2 95 w1 w.heap.size (.slice a' ([]++l).length c') l):=Lib.hid hown;clear hown hgrow;go_wp2_with fail
  go_returns;exact ClA.of HO.out hb1
set_option maxRecDepth 100000 in
set_option maxHeartbeats 4000000 in
theorem cloneX{l:List (It×Sl)}(v:Value)(w:World)(hs:Rw itc 5 w v l)(hl:l.length≤1000):Calls Try.prog 64 #[v] w (ClA itc 5 45 w l):=by
 have qT:∀(w:World) (a:Option Addr) (n c:Nat),(binOp .eql 30 (.slice a n c) (.slice none 0 0)).run Try.prog w= .ok (.bool a.isNone) w:=fun w a n c=>Lib.run_eql_slice_nil w 30 45 a n c 0 0 Try.underlying30
 have HS:=Lib.hid hs
 obtain⟨m1,a1,c1,rfl,_⟩:=hs.form
 clear hs
 cases a1 with
 |none=>
  have h0:l=[]:=by
   rcases HS.out with⟨h,_⟩|⟨_,_,_,_,_,h,_⟩
   ·exact h
   ·cases h
  subst h0;go_enter Try.func64,Try.ntmps64;go_wp2_with fail
  go_returns;exact ClA.of (Ow.nil _ _ _) (Below.refl _ _)
 |some a1=>
  go_enter Try.func64,Try.ntmps64;go_wp2_with (at_builtin;refine wpList_append_ow (f:=itc) (sz:=5) rfl _ _ 30 rfl w.heap.size 45 (.agg #[.int .i64 0,.int .i64 0,.int .i64 0,.int .i64 0,.slice none 0 0]) 56 Try.underlying30 infoX rfl (by decide) _ [] rfl (Ow.lit w 45 [] #[] rfl (by simp) _ (Nat.le_refl _) (by simp)) itc_ok _ l rfl (HS.out.below (by go_grown)) ?c2 ?c3 (by simp) ?_)
  case c2=>simp[maxLen];omega
  case c3=>simp;omega
  intro v' w1 hown hgrow _;have hb1:Below w.heap.size w w1:=((Below.refl _ w).alloc (Nat.le_refl _) _).grown hgrow (by simp) (fun k hk=>by simp[Value.ownBlock] at hk;omega)
  obtain⟨a',c',rfl⟩:=hown.form
  have HO:Hid (Ow itc 5 45 w1 w.heap.size (.slice a' ([]++l).length c') l):=Lib.hid hown;clear hown hgrow;go_wp2_with fail
  go_returns;exact ClA.of HO.out hb1
set_option maxRecDepth 100000 in
set_option maxHeartbeats 4000000 in
theorem cloneT{l:List Tg}(v:Value)(w:World)(hs:Rw tc 2 w v l)(hl:l.length≤1000):Calls Try.prog 65 #[v] w (ClA tc 2 86 w l):=by
 have qT:∀(w:World) (a:Option Addr) (n c:Nat),(binOp .eql 43 (.slice a n c) (.slice none 0 0)).run Try.prog w= .ok (.bool a.isNone) w:=fun w a n c=>Lib.run_eql_slice_nil w 43 86 a n c 0 0 Try.underlying43
 have HS:=Lib.hid hs
 obtain⟨m1,a1,c1,rfl,_⟩:=hs.form
 clear hs
 cases a1 with
 |none=>
  have h0:l=[]:=by
   rcases HS.out with⟨h,_⟩|⟨_,_,_,_,_,h,_⟩
   ·exact h
   ·cases h
  subst h0;go_enter Try.func65,Try.ntmps65;go_wp2_with fail
  go_returns;exact ClA.of (Ow.nil _ _ _) (Below.refl _ _)
 |some a1=>
  go_enter Try.func65,Try.ntmps65;go_wp2_with (at_builtin;refine wpList_append_ow (f:=tc) (sz:=2) rfl _ _ 43 rfl w.heap.size 86 (.agg #[.int .i64 0,.int .i64 0]) 16 Try.underlying43 infoT rfl (by decide) _ [] rfl (Ow.lit w 86 [] #[] rfl (by simp) _ (Nat.le_refl _) (by simp)) tc_ok _ l rfl (HS.out.below (by go_grown)) ?c2 ?c3 (by simp) ?_)
  case c2=>simp[maxLen];omega
  case c3=>simp;omega
  intro v' w1 hown hgrow _;have hb1:Below w.heap.size w w1:=((Below.refl _ w).alloc (Nat.le_refl _) _).grown hgrow (by simp) (fun k hk=>by simp[Value.ownBlock] at hk;omega)
  obtain⟨a',c',rfl⟩:=hown.form
  have HO:Hid (Ow tc 2 86 w1 w.heap.size (.slice a' ([]++l).length c') l):=Lib.hid hown;clear hown hgrow;go_wp2_with fail
  go_returns;exact ClA.of HO.out hb1
def ItA(w:World)(l:List It)(e:Ending)(w':World):Prop:=∃a c,e= .returned (.slice a l.length c)∧ItO w.heap.size w'.heap.size w' (.slice a l.length c) l∧Below w.heap.size w w'
/-- between the items that are copied -/
def ItL(w:World)(l':List (It×Sl))(v:Value)(hi:Nat)(i:Value)(wr:World):Prop:=∃(k:Nat) (m:List (It×Sl)),k≤l'.length∧i= .int .i64 k∧Below w.heap.size w wr∧hi≤wr.heap.size∧m.map Prod.fst=l'.map Prod.fst∧Ox itc 5 45 w.heap.size hi wr v m∧(∀j x,j<k→m[j]? =some x→Ox tc 2 86 w.heap.size wr.heap.size wr x.2.v x.1.tg)∧∀j,k≤j→m[j]? =l'[j]?
theorem map_set_fst{α β:Type}(m:List (α×β))(i:Nat)(x:α×β)(y:β)(h:m[i]? =some x):(m.set i (x.1,y)).map Prod.fst=m.map Prod.fst:=by
 apply List.ext_getElem?;intro j;rw[List.getElem?_map,List.getElem?_map,List.getElem?_set]
 split
 ·rename_i e
  subst e
  have:=(List.getElem?_eq_some_iff.1 h).1
  rw[if_pos this,h]
  rfl
 ·rfl
set_option maxRecDepth 100000 in
set_option maxHeartbeats 4000000 in
theorem items(v:Value)(l:List It)(w:World)(h:ItR w v l)(hl:l.length≤1000)(ht:∀x∈l,x.tg.length≤1000):Calls Try.prog 43 #[v] w (ItA w l):=by
 obtain⟨l',rfl,hr,htg⟩:=h
 rw[List.length_map] at hl
 have HR:=Lib.hid hr;have HTG:=Lib.hid htg;have HTL:=Lib.hid ht
 obtain⟨_,a1,c1,rfl,_⟩:=hr.form
 clear hr htg ht;go_enter Try.func43,Try.ntmps43;go_wp2_with fail
 with_reducible refine(cloneX _ w HR.out hl).mono ?_
 rintro e w1 ⟨oa,oc1,rfl,ho,hb⟩;have HO:=Lib.hid ho;have HB:=Lib.hid hb;have HTG1:Hid (∀x∈l',Rw tc 2 w1 x.2.v x.1.tg):=Lib.hid (fun x hx=>(HTG.out x hx).below hb);clear ho hb;go_wp2_with fail
 go_loopw [9] (fun i wr=>ItL w l' (.slice oa l'.length oc1) w1.heap.size i wr) (fun i _=>l'.length-(intOf i).toNat)
 case atStart=>exact⟨0,l',by omega,rfl,HB.out,Nat.le_refl _,rfl,HO.out,fun j x h=>by omega,fun _ _=>rfl⟩
 case round=>
  obtain⟨k,m,hk,rfl,hb,hh,hm,ho2,hd,hu⟩:=hrel
  replace HB:=Lib.hid hb;have HM:=Lib.hid hm;have HO2:=Lib.hid ho2;have HD:=Lib.hid hd;have HU:=Lib.hid hu;have hml:m.length=l'.length:=by have:=congrArg List.length hm;simpa using this
  have HML:=Lib.hid hml;clear hb hm ho2 hd hu hml
  by_cases hkl:k<l'.length
  ·obtain⟨y,hy⟩:∃y,m[k]? =some y:=⟨_,List.getElem?_eq_getElem (by have:=HML.out;omega)⟩
   have hyl:l'[k]? =some y:=by rw[←HU.out k (Nat.le_refl _)];exact hy
   have HTY:Hid (Rw tc 2 w y.2.v y.1.tg):=Lib.hid (HTG.out y (List.mem_of_getElem? hyl));have htl:y.1.tg.length≤1000:=HTL.out y.1 (List.mem_map.2 ⟨y,List.mem_of_getElem? hyl,rfl⟩)
   obtain⟨g,cap,hv,hg1,hg2,hg3⟩:=HO2.out.pos (by have:=HML.out;omega)
   simp only[Value.slice.injEq] at hv
   obtain⟨rfl,hx0,rfl⟩:=hv
   clear hx0
   obtain⟨x,⟨ta,tn,tc'⟩⟩:=y
   have HTW:Hid (Rw tc 2 w (.slice ta tn tc') x.tg):=Lib.hid HTY.out;have hca:=HO2.out.at itc_len hy (j:=4) (u:= .slice ta tn tc') rfl (k*5+4) rfl
   have d4:=hca.1;have f4:=hca.2;have i1:(0:Int)≤(k:Int):=by omega
   have i2:(k:Int)<(l'.length:Int):=by omega
   have HY:=Lib.hid hy;have HG1:=Lib.hid hg1;clear hca hy hyl hg1;go_wp2_with fail
   with_reducible refine(cloneT (.slice ta tn tc') wr (HTW.out.below HB.out) htl).mono ?_
   rintro e w5 ⟨sa,sc,rfl,hs,hb5⟩;have e4:w5.cell? ⟨g,k*5+4,none⟩=some (.slice ta tn tc'):=(hb5.cell (p:=⟨g,k*5+4,none⟩) hg3).trans d4;have g4:w5.frozen? ⟨g,k*5+4,none⟩=false:=(hb5.frozen (p:=⟨g,k*5+4,none⟩) hg3).trans f4;have HS:=Lib.hid hs;have HB5:=Lib.hid hb5;clear d4 f4 hs hb5;go_wp2_with fail
   go_roundw
   case rel=>
    have hb5:=HB5.out;have hlt:k<m.length:=by have:=HML.out;omega
    have hO:=(HO2.out.below hb5).setc itc_len HY.out (j:=4) (x':=(x,⟨sa,x.tg.length,sc⟩)) (u:= .slice sa x.tg.length sc) (by omega) rfl (k*5+4) rfl;have hgr:g<w5.heap.size:=Nat.lt_of_lt_of_le hg3 hb5.size
    have hkeep:∀{w0:World} {lo hi:Nat} {v:Value} {l:List Tg},Ox tc 2 86 lo hi w5 v l→Ox tc 2 86 lo hi (w5.setCell ⟨g,k*5+4,none⟩ (.slice sa x.tg.length sc)) v l:=fun h=>h.keep (fun q _ _ hq=>Below.heap_setCell _ _ _ _ (by
     intro e
     obtain⟨_,_,cc,hcc⟩:=h.1.typ _ hq
     obtain⟨_,_,c2,hc2⟩:=(HO2.out.below hb5).1.typ g rfl
     rw[show q=g from e,hc2] at hcc
     simp at hcc))
    have hs2:(w5.setCell ⟨g,k*5+4,none⟩ (.slice sa x.tg.length sc)).heap.size=w5.heap.size:=by simp[World.setCell]
    refine⟨k+1,_,by omega,by go_num,belowOnl (below_via HB.out hb5) (Onl.setCell (S:=[g]) (Onl.refl _ _) (.inl (by simp)) _) (by have:=HG1.out;simpa using this) (Nat.le_trans HB.out.size hb5.size),by(try rw[hs2]);exact Nat.le_trans hh hb5.size,?_,hO,fun j y hj hy=> ?_,fun j hj=> ?_⟩
    ·rw[map_set_fst m k (x,⟨ta,tn,tc'⟩) _ HY.out];exact HM.out
    ·try rw[hs2]
     by_cases e:k=j
     ·subst e
      rw[List.getElem?_set_self hlt] at hy
      simp only[Option.some.injEq] at hy
      subst hy;exact hkeep (w0:=w5) (HS.out.mono HB.out.size (Nat.le_refl _))
     ·rw[List.getElem?_set_ne e] at hy
      exact hkeep (w0:=w5) (((HD.out j y (by omega) hy).below hb5).mono (Nat.le_refl _) hb5.size)
    ·rw[List.getElem?_set,if_neg (by omega)]
     exact HU.out j (by omega)
   case measure=>simp[intOf];omega
  ·have hke:k=l'.length:=by omega
   go_wp2_with fail
   go_returns
   refine⟨oa,oc1,(by rw[List.length_map];rfl),⟨m,HM.out,?_,fun x hx=> ?_⟩,HB.out⟩
   ·rw[List.length_map];exact HO2.out.mono (Nat.le_refl _) hh
   ·obtain⟨j,hj⟩:=List.getElem?_of_mem hx
    exact .inl (HD.out j x (by have:=(List.getElem?_eq_some_iff.1 hj).1;have:=HML.out;omega) hj)
end Go.Proofs.Ytpbepnpnpopmfaa
