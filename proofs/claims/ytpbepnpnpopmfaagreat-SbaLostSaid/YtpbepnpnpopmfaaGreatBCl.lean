/- Clone, and items that share no memory. -/
import Derived.Test.YtpbepnpnpopmfaaGreatBOw
import Derived.Deep.DeepCutAuto
import Derived.LoopTactic
open Go.RowKit Go.Proofs.YtpbepnpnpopmfaaGreat
set_option maxRecDepth 100000
set_option maxHeartbeats 4000000
namespace Go.Proofs.YtpbepnpnpopmfaaGreat
open Plain
set_option linter.unusedVariables false
set_option linter.unusedSimpArgs false

theorem infoO:(Tryz.prog.info? 47).map (fun i=>(i.zero,i.size,i.bytes))=some (some (.agg #[.int .i64 0,.int .i64 0,.int .i64 0,.int .i64 0,.int .i64 0,.int .i64 0,.int .i64 0,.int .i64 0,.int .i64 0,.bool false,.bool false,.bool false]),12,80):=by kernel_rfl
theorem infoI:(Tryz.prog.info? 3).map (fun i=>(i.zero,i.size,i.bytes))=some (some (.int .i64 0),1,8):=by kernel_rfl
theorem infoK:(Tryz.prog.info? 89).map (fun i=>(i.zero,i.size,i.bytes))=some (some (.agg #[.int .i64 0,.int .i64 0]),2,16):=by kernel_rfl
theorem infoX:(Tryz.prog.info? 73).map (fun i=>(i.zero,i.size,i.bytes))=some (some (.agg #[.int .i64 0,.int .i64 0,.int .i64 0,.int .i64 0,.slice none 0 0]),5,56):=by kernel_rfl
theorem infoT:(Tryz.prog.info? 98).map (fun i=>(i.zero,i.size,i.bytes))=some (some (.agg #[.int .i64 0,.int .i64 0]),2,16):=by kernel_rfl
def ClA{α:Type}(f:α->List Value)(sz:Nat)(t:TypeId)(w:World)(l:List α)(e:Ending)(w':World):Prop:=∃a c,e= .returned (.slice a l.length c)/\Ox f sz t w.heap.size w'.heap.size w' (.slice a l.length c) l/\Below w.heap.size w w'
theorem ClA.of{α:Type}{f:α->List Value}{sz:Nat}{t:TypeId}{w w1:World}{l:List α}{v:Value}(h:Ow f sz t w1 w.heap.size v l)(hb:Below w.heap.size w w1):ClA f sz t w l (.returned v) w1:=by
 obtain⟨a,c,rfl⟩:=h.form
 exact⟨a,c,rfl,Ox.of h,hb⟩
theorem cloneO{l:List Ob}(v:Value)(w:World)(hs:Rw oc 12 w v l)(hl:l.length<=1000):Calls Tryz.prog 60 #[v] w (ClA oc 12 47 w l):=by
 have qT:∀(w:World) (a:Option Addr) (n c:Nat),(binOp .eql 23 (.slice a n c) (.slice none 0 0)).run Tryz.prog w= .ok (.bool a.isNone) w:=fun w a n c=>Lib.run_eql_slice_nil w 23 47 a n c 0 0 Tryz.underlying23
 have HS:=Hd hs
 obtain⟨m1,a1,c1,rfl,_⟩:=hs.form
 clear hs
 cases a1 with
 |none=>
  have h0:l=[]:=by
   rcases HS.o with⟨h,_⟩|⟨_,_,_,_,_,h,_⟩
   ·exact h
   cases h
  subst h0;go_enter Tryz.func60,Tryz.ntmps60;go_wp2_with fail
  go_returns;exact ClA.of (Ow.nil _ _ _) (Below.refl _ _)
 |some a1=>
  go_enter Tryz.func60,Tryz.ntmps60;go_wp2_with (at_builtin;refine wpList_append_ow (f:=oc) (sz:=12) rfl _ _ 23 rfl w.heap.size 47 (.agg #[.int .i64 0,.int .i64 0,.int .i64 0,.int .i64 0,.int .i64 0,.int .i64 0,.int .i64 0,.int .i64 0,.int .i64 0,.bool false,.bool false,.bool false]) 80 Tryz.underlying23 infoO rfl (by decide) _ [] rfl (Ow.lit w 47 [] #[] rfl (by simp) _ (Nat.le_refl _) (by simp)) oc_ok _ l rfl (HS.o.below (by go_grown)) ?c2 ?c3 (by simp) ?_)
  case c2=>simp[maxLen];omega
  case c3=>simp;omega
  intro v' w1 hown hgrow _;have hb1:Below w.heap.size w w1:=((Below.refl _ w).alloc (Nat.le_refl _) _).grown hgrow (by simp) (fun k hk=>by simp[Value.ownBlock] at hk;omega)
  obtain⟨a',c',rfl⟩:=hown.form
  have HO:Hid (Ow oc 12 47 w1 w.heap.size (.slice a' ([]++l).length c') l):=Hd hown;clear hown hgrow;go_wp2_with fail
  go_returns;exact ClA.of HO.o hb1
theorem cloneI{l:List Int}(v:Value)(w:World)(hs:Rw ic 1 w v l)(hl:l.length<=1000):Calls Tryz.prog 61 #[v] w (ClA ic 1 3 w l):=by
 have qT:∀(w:World) (a:Option Addr) (n c:Nat),(binOp .eql 26 (.slice a n c) (.slice none 0 0)).run Tryz.prog w= .ok (.bool a.isNone) w:=fun w a n c=>Lib.run_eql_slice_nil w 26 3 a n c 0 0 Tryz.underlying26
 have HS:=Hd hs
 obtain⟨m1,a1,c1,rfl,_⟩:=hs.form
 clear hs
 cases a1 with
 |none=>
  have h0:l=[]:=by
   rcases HS.o with⟨h,_⟩|⟨_,_,_,_,_,h,_⟩
   ·exact h
   cases h
  subst h0;go_enter Tryz.func61,Tryz.ntmps61;go_wp2_with fail
  go_returns;exact ClA.of (Ow.nil _ _ _) (Below.refl _ _)
 |some a1=>
  go_enter Tryz.func61,Tryz.ntmps61;go_wp2_with (at_builtin;refine wpList_append_ow (f:=ic) (sz:=1) rfl _ _ 26 rfl w.heap.size 3 (.int .i64 0) 8 Tryz.underlying26 infoI rfl (by decide) _ [] rfl (Ow.lit w 3 [] #[] rfl (by simp) _ (Nat.le_refl _) (by simp)) ic_ok _ l rfl (HS.o.below (by go_grown)) ?c2 ?c3 (by simp) ?_)
  case c2=>simp[maxLen];omega
  case c3=>simp;omega
  intro v' w1 hown hgrow _;have hb1:Below w.heap.size w w1:=((Below.refl _ w).alloc (Nat.le_refl _) _).grown hgrow (by simp) (fun k hk=>by simp[Value.ownBlock] at hk;omega)
  obtain⟨a',c',rfl⟩:=hown.form
  have HO:Hid (Ow ic 1 3 w1 w.heap.size (.slice a' ([]++l).length c') l):=Hd hown;clear hown hgrow;go_wp2_with fail
  go_returns;exact ClA.of HO.o hb1
theorem cloneK{l:List Bk}(v:Value)(w:World)(hs:Rw kc 2 w v l)(hl:l.length<=1000):Calls Tryz.prog 62 #[v] w (ClA kc 2 89 w l):=by
 have qT:∀(w:World) (a:Option Addr) (n c:Nat),(binOp .eql 31 (.slice a n c) (.slice none 0 0)).run Tryz.prog w= .ok (.bool a.isNone) w:=fun w a n c=>Lib.run_eql_slice_nil w 31 89 a n c 0 0 Tryz.underlying31
 have HS:=Hd hs
 obtain⟨m1,a1,c1,rfl,_⟩:=hs.form
 clear hs
 cases a1 with
 |none=>
  have h0:l=[]:=by
   rcases HS.o with⟨h,_⟩|⟨_,_,_,_,_,h,_⟩
   ·exact h
   cases h
  subst h0;go_enter Tryz.func62,Tryz.ntmps62;go_wp2_with fail
  go_returns;exact ClA.of (Ow.nil _ _ _) (Below.refl _ _)
 |some a1=>
  go_enter Tryz.func62,Tryz.ntmps62;go_wp2_with (at_builtin;refine wpList_append_ow (f:=kc) (sz:=2) rfl _ _ 31 rfl w.heap.size 89 (.agg #[.int .i64 0,.int .i64 0]) 16 Tryz.underlying31 infoK rfl (by decide) _ [] rfl (Ow.lit w 89 [] #[] rfl (by simp) _ (Nat.le_refl _) (by simp)) kc_ok _ l rfl (HS.o.below (by go_grown)) ?c2 ?c3 (by simp) ?_)
  case c2=>simp[maxLen];omega
  case c3=>simp;omega
  intro v' w1 hown hgrow _;have hb1:Below w.heap.size w w1:=((Below.refl _ w).alloc (Nat.le_refl _) _).grown hgrow (by simp) (fun k hk=>by simp[Value.ownBlock] at hk;omega)
  obtain⟨a',c',rfl⟩:=hown.form
  have HO:Hid (Ow kc 2 89 w1 w.heap.size (.slice a' ([]++l).length c') l):=Hd hown;clear hown hgrow;go_wp2_with fail
  go_returns;exact ClA.of HO.o hb1
theorem cloneX{l:List (It×Sl)}(v:Value)(w:World)(hs:Rw itc 5 w v l)(hl:l.length<=1000):Calls Tryz.prog 87 #[v] w (ClA itc 5 73 w l):=by
 have qT:∀(w:World) (a:Option Addr) (n c:Nat),(binOp .eql 30 (.slice a n c) (.slice none 0 0)).run Tryz.prog w= .ok (.bool a.isNone) w:=fun w a n c=>Lib.run_eql_slice_nil w 30 73 a n c 0 0 Tryz.underlying30
 have HS:=Hd hs
 obtain⟨m1,a1,c1,rfl,_⟩:=hs.form
 clear hs
 cases a1 with
 |none=>
  have h0:l=[]:=by
   rcases HS.o with⟨h,_⟩|⟨_,_,_,_,_,h,_⟩
   ·exact h
   cases h
  subst h0;go_enter Tryz.func87,Tryz.ntmps87;go_wp2_with fail
  go_returns;exact ClA.of (Ow.nil _ _ _) (Below.refl _ _)
 |some a1=>
  go_enter Tryz.func87,Tryz.ntmps87;go_wp2_with (at_builtin;refine wpList_append_ow (f:=itc) (sz:=5) rfl _ _ 30 rfl w.heap.size 73 (.agg #[.int .i64 0,.int .i64 0,.int .i64 0,.int .i64 0,.slice none 0 0]) 56 Tryz.underlying30 infoX rfl (by decide) _ [] rfl (Ow.lit w 73 [] #[] rfl (by simp) _ (Nat.le_refl _) (by simp)) itc_ok _ l rfl (HS.o.below (by go_grown)) ?c2 ?c3 (by simp) ?_)
  case c2=>simp[maxLen];omega
  case c3=>simp;omega
  intro v' w1 hown hgrow _;have hb1:Below w.heap.size w w1:=((Below.refl _ w).alloc (Nat.le_refl _) _).grown hgrow (by simp) (fun k hk=>by simp[Value.ownBlock] at hk;omega)
  obtain⟨a',c',rfl⟩:=hown.form
  have HO:Hid (Ow itc 5 73 w1 w.heap.size (.slice a' ([]++l).length c') l):=Hd hown;clear hown hgrow;go_wp2_with fail
  go_returns;exact ClA.of HO.o hb1
theorem cloneT{l:List Tg}(v:Value)(w:World)(hs:Rw tc 2 w v l)(hl:l.length<=1000):Calls Tryz.prog 88 #[v] w (ClA tc 2 98 w l):=by
 have qT:∀(w:World) (a:Option Addr) (n c:Nat),(binOp .eql 71 (.slice a n c) (.slice none 0 0)).run Tryz.prog w= .ok (.bool a.isNone) w:=fun w a n c=>Lib.run_eql_slice_nil w 71 98 a n c 0 0 Tryz.underlying71
 have HS:=Hd hs
 obtain⟨m1,a1,c1,rfl,_⟩:=hs.form
 clear hs
 cases a1 with
 |none=>
  have h0:l=[]:=by
   rcases HS.o with⟨h,_⟩|⟨_,_,_,_,_,h,_⟩
   ·exact h
   cases h
  subst h0;go_enter Tryz.func88,Tryz.ntmps88;go_wp2_with fail
  go_returns;exact ClA.of (Ow.nil _ _ _) (Below.refl _ _)
 |some a1=>
  go_enter Tryz.func88,Tryz.ntmps88;go_wp2_with (at_builtin;refine wpList_append_ow (f:=tc) (sz:=2) rfl _ _ 71 rfl w.heap.size 98 (.agg #[.int .i64 0,.int .i64 0]) 16 Tryz.underlying71 infoT rfl (by decide) _ [] rfl (Ow.lit w 98 [] #[] rfl (by simp) _ (Nat.le_refl _) (by simp)) tc_ok _ l rfl (HS.o.below (by go_grown)) ?c2 ?c3 (by simp) ?_)
  case c2=>simp[maxLen];omega
  case c3=>simp;omega
  intro v' w1 hown hgrow _;have hb1:Below w.heap.size w w1:=((Below.refl _ w).alloc (Nat.le_refl _) _).grown hgrow (by simp) (fun k hk=>by simp[Value.ownBlock] at hk;omega)
  obtain⟨a',c',rfl⟩:=hown.form
  have HO:Hid (Ow tc 2 98 w1 w.heap.size (.slice a' ([]++l).length c') l):=Hd hown;clear hown hgrow;go_wp2_with fail
  go_returns;exact ClA.of HO.o hb1
def ItA(w:World)(l:List It)(e:Ending)(w':World):Prop:=∃a c,e= .returned (.slice a l.length c)/\ItO w.heap.size w'.heap.size w' (.slice a l.length c) l/\Below w.heap.size w w'
def ItL(w:World)(l':List (It×Sl))(v:Value)(hi:Nat)(i:Value)(wr:World):Prop:=∃(k:Nat) (m:List (It×Sl)),k<=l'.length/\i= .int .i64 k/\Below w.heap.size w wr/\hi<=wr.heap.size/\m.map Prod.fst=l'.map Prod.fst/\Ox itc 5 73 w.heap.size hi wr v m/\(∀j x,j<k->m[j]? =some x->Ox tc 2 98 w.heap.size wr.heap.size wr x.2.v x.1.tg)/\∀j,k<=j->m[j]? =l'[j]?
theorem map_set_fst{α β:Type}(m:List (α×β))(i:Nat)(x:α×β)(y:β)(h:m[i]? =some x):(m.set i (x.1,y)).map Prod.fst=m.map Prod.fst:=by
 apply List.ext_getElem?;intro j;rw[List.getElem?_map,List.getElem?_map,List.getElem?_set]
 split
 ·rename_i e
  subst e
  have:=(List.getElem?_eq_some_iff.1 h).1
  rw[if_pos this,h]
  rfl
 rfl
theorem items(v:Value)(l:List It)(w:World)(h:ItR w v l)(hl:l.length<=1000)(ht:∀x∈l,x.tg.length<=1000):Calls Tryz.prog 63 #[v] w (ItA w l):=by
 obtain⟨l',rfl,hr,htg⟩:=h
 rw[List.length_map] at hl
 have HR:=Hd hr;have HTG:=Hd htg;have HTL:=Hd ht
 obtain⟨_,a1,c1,rfl,_⟩:=hr.form
 clear hr htg ht;go_enter Tryz.func63,Tryz.ntmps63;go_wp2_with fail
 with_reducible refine(cloneX _ w HR.o hl).mono ?_
 rintro e w1 ⟨oa,oc1,rfl,ho,hb⟩;have HO:=Hd ho;have HB:=Hd hb;have HTG1:Hid (∀x∈l',Rw tc 2 w1 x.2.v x.1.tg):=Hd (fun x hx=>(HTG.o x hx).below hb);clear ho hb;go_wp2_with fail
 go_loopw [9] (fun i wr=>ItL w l' (.slice oa l'.length oc1) w1.heap.size i wr) (fun i _=>l'.length-(intOf i).toNat)
 case atStart=>exact⟨0,l',by omega,rfl,HB.o,Nat.le_refl _,rfl,HO.o,fun j x h=>by omega,fun _ _=>rfl⟩
 obtain⟨k,m,hk,rfl,hb,hh,hm,ho2,hd,hu⟩:=hrel
 replace HB:=Hd hb;have HM:=Hd hm;have HO2:=Hd ho2;have HD:=Hd hd;have HU:=Hd hu;have hml:m.length=l'.length:=by have:=congrArg List.length hm;simpa using this
 have HML:=Hd hml;clear hb hm ho2 hd hu hml
 by_cases hkl:k<l'.length
 ·obtain⟨y,hy⟩:∃y,m[k]? =some y:=⟨_,List.getElem?_eq_getElem (by have:=HML.o;omega)⟩
  have hyl:l'[k]? =some y:=by rw[<-HU.o k (Nat.le_refl _)];exact hy
  have HTY:Hid (Rw tc 2 w y.2.v y.1.tg):=Hd (HTG.o y (List.mem_of_getElem? hyl));have htl:y.1.tg.length<=1000:=HTL.o y.1 (List.mem_map.2 ⟨y,List.mem_of_getElem? hyl,rfl⟩)
  obtain⟨g,cap,hv,hg1,hg2,hg3⟩:=HO2.o.pos (by have:=HML.o;omega)
  simp only[Value.slice.injEq] at hv
  obtain⟨rfl,hx0,rfl⟩:=hv
  clear hx0
  obtain⟨x,⟨ta,tn,tc'⟩⟩:=y
  have HTW:Hid (Rw tc 2 w (.slice ta tn tc') x.tg):=Hd HTY.o;have hca:=HO2.o.at itc_len hy (j:=4) (u:= .slice ta tn tc') rfl (k*5+4) rfl
  have d4:=hca.1;have f4:=hca.2;have i1:(0:Int)<=(k:Int):=by omega
  have i2:(k:Int)<(l'.length:Int):=by omega
  have HY:=Hd hy;have HG1:=Hd hg1;clear hca hy hyl hg1;go_wp2_with fail
  with_reducible refine(cloneT (.slice ta tn tc') wr (HTW.o.below HB.o) htl).mono ?_
  rintro e w5 ⟨sa,sc,rfl,hs,hb5⟩;have e4:w5.cell? ⟨g,k*5+4,none⟩=some (.slice ta tn tc'):=(hb5.cell (p:=⟨g,k*5+4,none⟩) hg3).trans d4;have g4:w5.frozen? ⟨g,k*5+4,none⟩=false:=(hb5.frozen (p:=⟨g,k*5+4,none⟩) hg3).trans f4;have HS:=Hd hs;have HB5:=Hd hb5;clear d4 f4 hs hb5;go_wp2_with fail
  go_roundw
  case rel=>
   have hb5:=HB5.o;have hlt:k<m.length:=by have:=HML.o;omega
   have hO:=(HO2.o.below hb5).setc itc_len HY.o (j:=4) (x':=(x,⟨sa,x.tg.length,sc⟩)) (u:= .slice sa x.tg.length sc) (by omega) rfl (k*5+4) rfl;have hgr:g<w5.heap.size:=Nat.lt_of_lt_of_le hg3 hb5.size
   have hkeep:∀{w0:World} {lo hi:Nat} {v:Value} {l:List Tg},Ox tc 2 98 lo hi w5 v l->Ox tc 2 98 lo hi (w5.setCell ⟨g,k*5+4,none⟩ (.slice sa x.tg.length sc)) v l:=fun h=>h.keep (fun q _ _ hq=>Below.heap_setCell _ _ _ _ (by
    intro e
    obtain⟨_,_,cc,hcc⟩:=h.1.typ _ hq
    obtain⟨_,_,c2,hc2⟩:=(HO2.o.below hb5).1.typ g rfl
    rw[show q=g from e,hc2] at hcc
    simp at hcc))
   have hs2:(w5.setCell ⟨g,k*5+4,none⟩ (.slice sa x.tg.length sc)).heap.size=w5.heap.size:=by simp[World.setCell]
   refine⟨k+1,_,by omega,by go_num,belowOnl (below_via HB.o hb5) (Onl.setCell (S:=[g]) (Onl.refl _ _) (.inl (by simp)) _) (by have:=HG1.o;simpa using this) (Nat.le_trans HB.o.size hb5.size),by(try rw[hs2]);exact Nat.le_trans hh hb5.size,?_,hO,fun j y hj hy=> ?_,fun j hj=> ?_⟩
   ·rw[map_set_fst m k (x,⟨ta,tn,tc'⟩) _ HY.o];exact HM.o
   ·try rw[hs2]
    by_cases e:k=j
    ·subst e
     rw[List.getElem?_set_self hlt] at hy
     simp only[Option.some.injEq] at hy
     subst hy;exact hkeep (w0:=w5) (HS.o.mono HB.o.size (Nat.le_refl _))
    rw[List.getElem?_set_ne e] at hy
    exact hkeep (w0:=w5) (((HD.o j y (by omega) hy).below hb5).mono (Nat.le_refl _) hb5.size)
   rw[List.getElem?_set,if_neg (by omega)];exact HU.o j (by omega)
  case measure=>simp[intOf];omega
 have hke:k=l'.length:=by omega
 go_wp2_with fail
 go_returns
 refine⟨oa,oc1,(by rw[List.length_map];rfl),⟨m,HM.o,?_,fun x hx=> ?_⟩,HB.o⟩
 ·rw[List.length_map];exact HO2.o.mono (Nat.le_refl _) hh
 obtain⟨j,hj⟩:=List.getElem?_of_mem hx
 exact .inl (HD.o j x (by have:=(List.getElem?_eq_some_iff.1 hj).1;have:=HML.o;omega) hj)
end Go.Proofs.YtpbepnpnpopmfaaGreat
