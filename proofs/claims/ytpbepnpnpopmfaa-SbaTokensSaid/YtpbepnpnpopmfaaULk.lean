/- A slice of integers in memory ('Seg'): what a function that reads it is told. Tokens in all zones: the law's walk. -/
import Derived.Test.YtpbepnpnpopmfaaRw
import Derived.Laws.AppendOwnNone
import Derived.Test.YtpbepnpnpopmfaaUVs
import Derived.Test.YtpbepnpnpopmfaaUKn
import Derived.Deep.DeepCutAuto
import Derived.LoopTactic
import Derived.Deep.MidRow
namespace Go.Proofs.Ytpbepnpnpopmfaa
open Go.RowKit

/-- the slice v holds the numbers zs in w -/
def Seg(w:World)(k:IntKind)(v:Value)(zs:List Int):Prop:=
 (zs=[]∧(v= .slice none 0 0∨∃a cap,v= .slice (some a) 0 cap))∨
 (zs≠[]∧zs.length≤maxLen∧∃b off cap,v= .slice (some ⟨b,off,none⟩) zs.length cap∧b<w.heap.size∧∀i z,zs[i]? =some z→w.cell? ⟨b,off+i,none⟩=some (.int k z))

/-- what the frame is told of a slice of integers that came in -/
def IsRow(k:IntKind)(w:World)(a:Option Addr)(len cap:Nat)(zs:List Int):Prop:=
 (a=none∧len=0∧cap=0∧zs=[])∨
 ∃x,a=some x∧len≤cap∧cap≤maxLen∧zs.length=cap∧(∀i,i<zs.length→w.cell? (x.add i)=some (.int k (zs.getD i 0)))∧∀n∈zs,(Lit.int k n).wf=true

theorem cell_lt{w:World}{p:Addr}{v:Value}(h:w.cell? p=some v):p.block<w.heap.size:=by
 rcases Nat.lt_or_ge p.block w.heap.size with h1|h1
 ·exact h1
 ·have h2:w.heap[p.block]? =none:=Array.getElem?_eq_none h1
  simp[World.cell?,h2] at h

theorem IsRow.seg{k:IntKind}{w:World}{a:Option Addr}{len cap:Nat}{zs:List Int}(h:IsRow k w a len cap zs):
  len≤zs.length∧Seg w k (.slice a len cap) (zs.take len)∧(∀z∈zs.take len,(Lit.int k z).wf=true):=by
 rcases h with⟨rfl,rfl,rfl,rfl⟩|⟨x,rfl,hl,hm,hz,hc,hw⟩
 ·exact⟨Nat.le_refl _,.inl ⟨rfl,.inl rfl⟩,by simp⟩
 ·refine⟨by omega,?_,fun z hz=>hw z (List.mem_of_mem_take hz)⟩
  rcases Nat.eq_zero_or_pos len with h0|h0
  ·subst h0
   exact .inl ⟨by simp,.inr ⟨x,cap,rfl⟩⟩
  ·have hlen:(zs.take len).length=len:=by simp;omega
   refine .inr ⟨by intro e;rw[e] at hlen;simp at hlen;omega,by omega,?_⟩
   obtain⟨b,off,rfl,hc'⟩:=ints_at hc (by omega)
   refine⟨b,off,cap,by rw[hlen],cell_lt (hc 0 (by omega)),fun i z hi=> ?_⟩
   have hi':i<len:=by
    have:=(List.getElem?_eq_some_iff.1 hi).1
    omega
   have h2:=hc' i (by omega);have h3:zs[i]? =some z:=by rw[←hi,List.getElem?_take_of_lt hi']
   simpa [List.getD,h3] using h2

theorem Seg.below{w w':World}{k:IntKind}{v:Value}{zs:List Int}(h:Seg w k v zs)(hb:Below w.heap.size w w'):Seg w' k v zs:=by
 rcases h with h|⟨h0,h1,b,off,cap,hv,hlt,hc⟩
 ·exact .inl h
 ·exact .inr ⟨h0,h1,b,off,cap,hv,Nat.lt_of_lt_of_le hlt hb.size,fun i z hi=>(hb.cell (p:=⟨b,off+i,none⟩) hlt).trans (hc i z hi)⟩
theorem Seg.some{w:World}{k:IntKind}{v:Value}{zs:List Int}(h:Seg w k v zs)(h0:zs≠[]):
  zs.length≤maxLen∧∃b off cap,v= .slice (some ⟨b,off,none⟩) zs.length cap∧b<w.heap.size∧∀i z,zs[i]? =some z→w.cell? ⟨b,off+i,none⟩=some (.int k z):=by
 rcases h with⟨h,_⟩|⟨_,h⟩
 ·exact absurd h h0
 ·exact h

/-- what a call owns is such a slice -/
theorem seg_of_owns{w:World}{base:Nat}{e:TypeId}{k:IntKind}{v:Value}{zs:List Int}(h:w.ownsRow base e 1 v zs.length (zs.map (Value.int k)))(hm:zs.length≤maxLen):Seg w k v zs:=by
 rcases h.2 with⟨h1,h2⟩|⟨g,cap,cur,h1,hb,hg,hn,hcap,hsz,ht⟩
 ·exact .inl ⟨List.eq_nil_of_length_eq_zero h2,.inl h1⟩
 ·rcases Nat.eq_zero_or_pos zs.length with h0|h0
  ·exact .inl ⟨List.eq_nil_of_length_eq_zero h0,.inr ⟨⟨g,0,none⟩,cap,by rw[h1,h0]⟩⟩
  ·refine .inr ⟨by intro e;rw[e] at h0;simp at h0,hm,g,0,cap,h1,(Array.getElem?_eq_some_iff.1 hg).1,fun i z hi=> ?_⟩
   subst h1;have hi':=(List.getElem?_eq_some_iff.1 hi).1;rw[Nat.zero_add,h.cellAt i (by omega),List.getElem?_map,hi]
   rfl

/-- 'append([]T(nil), l...)' of a slice of integers: a new slice with the same numbers -/
theorem wpList_copy_seg{P:Program}{w:World}{ops:Array Oper}{rest:List Oper}{o:Oper}{a:Act}{Q:Exit→Act→World→Prop}(hgd:o.guard=none)(s x:Operand)(t:TypeId)
  (ho:o.op= .call {callee:= .builtin .append,args:= #[s,x],argTypes:= #[t,t]})
  (e:TypeId) (i:TypeInfo) (k:IntKind) (bytes:Nat) (ht:P.underlying t=some (.slice e)) (hi:P.info? e=some i) (hz:i.zero=some (.int k 0))
  (hsize:i.size=1) (hby:i.bytes=bytes) (hs:a.eval s= .slice none 0 0) (v:Value) (zs:List Int) (hx:a.eval x=v) (hseg:Seg w k v zs)
  (hbytes:zs.length*bytes≤140737488355328) (hm:zs.length≤maxLen)
  (h:∀v' w',Seg w' k v' zs→Below w.heap.size w w'→wpList P ops Q rest (a.put o.dst v') w'):wpList P ops Q (o::rest) a w:=by
 rcases hseg with⟨rfl,rfl|⟨ad,cap,rfl⟩⟩|⟨h0,h1,b,off,cap,rfl,hlt,hc⟩
 ·exact wpList_append_own_none hgd s x t ho w.heap.size e i 1 ht hi (.slice none 0 0) 0 [] hs (World.ownsRow_nil _ _ _ _) hx (h _ _ (.inl ⟨rfl,.inl rfl⟩) (Below.refl _ _))
 ·refine wpList_append_own w hgd s x t ho w.heap.size e i (.int k 0) 1 bytes ht hi hz hsize hby rfl (by omega) (.slice none 0 0) 0 [] hs (World.ownsRow_nil _ _ _ _) ad 0 cap [] hx rfl (by simp) (by simp) (by simp) (by simp) (Nat.le_refl _) ?_
  intro v' w' hown hg _;exact h v' w' (seg_of_owns (zs:=[]) (by simpa using hown) (by simp)) ((Below.refl _ _).grown hg (Nat.le_refl _) (by simp[Value.ownBlock]))
 ·refine wpList_append_own w hgd s x t ho w.heap.size e i (.int k 0) 1 bytes ht hi hz hsize hby rfl (by omega) (.slice none 0 0) 0 [] hs (World.ownsRow_nil _ _ _ _) ⟨b,off,none⟩ zs.length cap (zs.map (Value.int k)) hx (by simp) ?_ (by simp[Value.oneCell']) (by simpa using hm) (by simpa using hbytes) (Nat.le_refl _) ?_
  ·intro j u hj
   rw[List.getElem?_map] at hj
   cases hz:zs[j]? with
   |none=>rw[hz] at hj;simp at hj
   |some z=>
    rw[hz] at hj
    simp at hj
    subst hj;rw[WideShapes.add_plain];exact hc j z hz
  ·intro v' w' hown hg _
   exact h v' w' (seg_of_owns (by simpa using hown) hm) ((Below.refl _ _).grown hg (Nat.le_refl _) (by simp[Value.ownBlock]))

/-- a slice over a block that was just made -/
theorem seg_new(w:World)(k:IntKind)(T:TypeId)(zs:List Int)(cap:Nat)(h0:zs≠[])(h1:zs.length≤maxLen):
  Seg (w.alloc (.cells (zs.map (Value.int k)).toArray T)) k (.slice (some ⟨w.heap.size,0,none⟩) zs.length cap) zs:=by
 refine .inr ⟨h0,h1,w.heap.size,0,cap,rfl,by simp,fun i z hi=> ?_⟩;simp[hi]
end Go.Proofs.Ytpbepnpnpopmfaa
namespace Go.Proofs.Ytpbepnpnpopmfaa
open Go.RowKit Plain
set_option linter.unusedVariables false
set_option linter.unusedSimpArgs false

theorem rg4_14{P:Program}{B n:Nat}{w0:World}{L:List (Nat×Nat×Value)}{E F:World→Prop}{id:Nat}{Q:Exit→Act→World→Prop}{a:Act}{w:World}{A:Array Oper}{o0 o1 o2 o3 o4 o5 o6 o7 o8 o9:Oper}(hm:P.follows .mixedOrders=true)(hA:A=[o0,o1,o2,o3,o4,o5,o6,o7,o8,o9].toArray)(hB:regOk A [1,2,6] [0,3,5,7,8] (.fs [0,3,5] (.rs [1,2,6] (.alt 4 (.fs [7,8] (.altc 9 .done .stop)) .stop)))=true)(c:RC B w0 n L E F w)
  (h:∀wk,Kept B w0 n L wk→E wk→F wk→wpQuiet P A (fun _=>True) (fun a0=>wpQuiet P A (fun w' =>∃s:KX B w0 n L E,w' =s.val) (fun a1=>((∀K2:Act→World→Prop,(∀a2 w2,wpQuiet P A (fun _=>True) (fun a3=>((∀K4:Act→World→Prop,(∀a4 w4,Q .normal a4 w4→K4 a4 w4)→wpList P A (fun e a4 w4=>e= .normal∧K4 a4 w4) [o9] a3 w2)∧True)) [o7,o8] a2→K2 a2 w2)→wpList P A (fun e a2 w2=>e= .normal∧(∃s:KX B w0 n L E,w2=s.val)∧K2 a2 w2) [o4] a1 wk)∧True)) [o1,o2,o6] a0) [o0,o3,o5] a):(Code.region id A true).wp P Q a w:=by
 subst hA;exact wp_reg _ _ _ hm hB c (fun wk k e f=>have g:=h wk k e f;Scr.of_fs _ _ rfl g fun _ g=>Scr.of_rs _ _ rfl g fun _ g=>(Scr.of_alt rfl (g.1 _ fun _ _ g=>g) (fun _ _ g=>Scr.of_fs _ _ rfl g fun _ g=>(Scr.of_altc rfl (g.1 _ fun _ _ g=>g) (fun _ _ g=>g) trivial)) trivial))
theorem rg4_17{P:Program}{B n:Nat}{w0:World}{L:List (Nat×Nat×Value)}{E F:World→Prop}{id:Nat}{Q:Exit→Act→World→Prop}{a:Act}{w:World}{A:Array Oper}{o0 o1 o2 o3 o4 o5 o6 o7 o8 o9 o10 o11 o12:Oper}(hm:P.follows .mixedOrders=true)(hA:A=[o0,o1,o2,o3,o4,o5,o6,o7,o8,o9,o10,o11,o12].toArray)(hB:regOk A [1,3] [2,5,6,7,8,11,12] (.fs [2] (.rs [1,3] (.alt 0 (.altc 4 (.fs [5,6,7,8] (.alt 9 (.altc 10 (.fs [11,12] .done) .stop) .stop)) (.alt 9 (.altc 4 (.fs [5,6,7,8] (.altc 10 (.fs [11,12] .done) .stop)) .stop) .stop)) (.alt 9 (.alt 0 (.altc 4 (.fs [5,6,7,8] (.altc 10 (.fs [11,12] .done) .stop)) .stop) .stop) .stop))))=true)(c:RC B w0 n L E F w)
  (h:∀wk,Kept B w0 n L wk→E wk→F wk→wpQuiet P A (fun _=>True) (fun a0=>wpQuiet P A (fun w' =>∃s:KX B w0 n L E,w' =s.val) (fun a1=>((∀K2:Act→World→Prop,(∀a2 w2,((∀K3:Act→World→Prop,(∀a3 w3,wpQuiet P A (fun _=>True) (fun a4=>((∀K5:Act→World→Prop,(∀a5 w5,((∀K6:Act→World→Prop,(∀a6 w6,wpQuiet P A (fun _=>True) (fun a7=>Q .normal a7 w6) [o11,o12] a6→K6 a6 w6)→wpList P A (fun e a6 w6=>e= .normal∧K6 a6 w6) [o10] a5 w5)∧True)→K5 a5 w5)→wpList P A (fun e a5 w5=>e= .normal∧(∃s:KX B w0 n L E,w5=s.val)∧K5 a5 w5) [o9] a4 w3)∧True)) [o5,o6,o7,o8] a3→K3 a3 w3)→wpList P A (fun e a3 w3=>e= .normal∧K3 a3 w3) [o4] a2 w2)∧(∀K3:Act→World→Prop,(∀a3 w3,((∀K4:Act→World→Prop,(∀a4 w4,wpQuiet P A (fun _=>True) (fun a5=>((∀K6:Act→World→Prop,(∀a6 w6,wpQuiet P A (fun _=>True) (fun a7=>Q .normal a7 w6) [o11,o12] a6→K6 a6 w6)→wpList P A (fun e a6 w6=>e= .normal∧K6 a6 w6) [o10] a5 w4)∧True)) [o5,o6,o7,o8] a4→K4 a4 w4)→wpList P A (fun e a4 w4=>e= .normal∧K4 a4 w4) [o4] a3 w3)∧True)→K3 a3 w3)→wpList P A (fun e a3 w3=>e= .normal∧(∃s:KX B w0 n L E,w3=s.val)∧K3 a3 w3) [o9] a2 w2)∧True)→K2 a2 w2)→wpList P A (fun e a2 w2=>e= .normal∧(∃s:KX B w0 n L E,w2=s.val)∧K2 a2 w2) [o0] a1 wk)∧(∀K2:Act→World→Prop,(∀a2 w2,((∀K3:Act→World→Prop,(∀a3 w3,((∀K4:Act→World→Prop,(∀a4 w4,wpQuiet P A (fun _=>True) (fun a5=>((∀K6:Act→World→Prop,(∀a6 w6,wpQuiet P A (fun _=>True) (fun a7=>Q .normal a7 w6) [o11,o12] a6→K6 a6 w6)→wpList P A (fun e a6 w6=>e= .normal∧K6 a6 w6) [o10] a5 w4)∧True)) [o5,o6,o7,o8] a4→K4 a4 w4)→wpList P A (fun e a4 w4=>e= .normal∧K4 a4 w4) [o4] a3 w3)∧True)→K3 a3 w3)→wpList P A (fun e a3 w3=>e= .normal∧(∃s:KX B w0 n L E,w3=s.val)∧K3 a3 w3) [o0] a2 w2)∧True)→K2 a2 w2)→wpList P A (fun e a2 w2=>e= .normal∧(∃s:KX B w0 n L E,w2=s.val)∧K2 a2 w2) [o9] a1 wk)∧True)) [o1,o3] a0) [o2] a):(Code.region id A true).wp P Q a w:=by
 subst hA;exact wp_reg _ _ _ hm hB c (fun wk k e f=>have g:=h wk k e f;Scr.of_fs _ _ rfl g fun _ g=>Scr.of_rs _ _ rfl g fun _ g=>(Scr.of_alt rfl (g.1 _ fun _ _ g=>g) (fun _ _ g=>(Scr.of_altc rfl (g.1 _ fun _ _ g=>g) (fun _ _ g=>Scr.of_fs _ _ rfl g fun _ g=>(Scr.of_alt rfl (g.1 _ fun _ _ g=>g) (fun _ _ g=>(Scr.of_altc rfl (g.1 _ fun _ _ g=>g) (fun _ _ g=>Scr.of_fs _ _ rfl g fun _ g=>g) trivial)) trivial)) (Scr.of_alt rfl (g.2.1 _ fun _ _ g=>g) (fun _ _ g=>(Scr.of_altc rfl (g.1 _ fun _ _ g=>g) (fun _ _ g=>Scr.of_fs _ _ rfl g fun _ g=>(Scr.of_altc rfl (g.1 _ fun _ _ g=>g) (fun _ _ g=>Scr.of_fs _ _ rfl g fun _ g=>g) trivial)) trivial)) trivial))) (Scr.of_alt rfl (g.2.1 _ fun _ _ g=>g) (fun _ _ g=>(Scr.of_alt rfl (g.1 _ fun _ _ g=>g) (fun _ _ g=>(Scr.of_altc rfl (g.1 _ fun _ _ g=>g) (fun _ _ g=>Scr.of_fs _ _ rfl g fun _ g=>(Scr.of_altc rfl (g.1 _ fun _ _ g=>g) (fun _ _ g=>Scr.of_fs _ _ rfl g fun _ g=>g) trivial)) trivial)) trivial)) trivial)))
theorem rg4_18{P:Program}{B n:Nat}{w0:World}{L:List (Nat×Nat×Value)}{E F:World→Prop}{id:Nat}{Q:Exit→Act→World→Prop}{a:Act}{w:World}{A:Array Oper}{o0 o1 o2 o3 o4 o5 o6 o7 o8 o9 o10 o11 o12 o13 o14 o15 o16 o17 o18 o19 o20 o21 o22 o23 o24:Oper}(hm:P.follows .mixedOrders=true)(hA:A=[o0,o1,o2,o3,o4,o5,o6,o7,o8,o9,o10,o11,o12,o13,o14,o15,o16,o17,o18,o19,o20,o21,o22,o23,o24].toArray)(hB:regOk A [8,15,21] [0,1,2,3,4,5,6,7,9,10,11,12,13,14,16,17,18,19,23,24] (.fs [0,1,2,3,4,5,6,7,10] (.rs [8] (.fs [9,11,12,13,14] (.rs [15] (.fs [16,17,18,19] (.rs [21] (.alt 20 (.altc 22 (.fs [23,24] .done) .stop) .stop)))))))=true)(c:RC B w0 n L E F w)
  (h:∀wk,Kept B w0 n L wk→E wk→F wk→wpQuiet P A (fun _=>True) (fun a0=>wpQuiet P A (fun w' =>∃s:KX B w0 n L E,w' =s.val) (fun a1=>wpQuiet P A (fun _=>True) (fun a2=>wpQuiet P A (fun w' =>∃s:KX B w0 n L E,w' =s.val) (fun a3=>wpQuiet P A (fun _=>True) (fun a4=>wpQuiet P A (fun w' =>∃s:KX B w0 n L E,w' =s.val) (fun a5=>((∀K6:Act→World→Prop,(∀a6 w6,((∀K7:Act→World→Prop,(∀a7 w7,wpQuiet P A (fun _=>True) (fun a8=>Q .normal a8 w7) [o23,o24] a7→K7 a7 w7)→wpList P A (fun e a7 w7=>e= .normal∧K7 a7 w7) [o22] a6 w6)∧True)→K6 a6 w6)→wpList P A (fun e a6 w6=>e= .normal∧(∃s:KX B w0 n L E,w6=s.val)∧K6 a6 w6) [o20] a5 wk)∧True)) [o21] a4) [o16,o17,o18,o19] a3) [o15] a2) [o9,o11,o12,o13,o14] a1) [o8] a0) [o0,o1,o2,o3,o4,o5,o6,o7,o10] a):(Code.region id A true).wp P Q a w:=by
 subst hA;exact wp_reg _ _ _ hm hB c (fun wk k e f=>have g:=h wk k e f;Scr.of_fs _ _ rfl g fun _ g=>Scr.of_rs _ _ rfl g fun _ g=>Scr.of_fs _ _ rfl g fun _ g=>Scr.of_rs _ _ rfl g fun _ g=>Scr.of_fs _ _ rfl g fun _ g=>Scr.of_rs _ _ rfl g fun _ g=>(Scr.of_alt rfl (g.1 _ fun _ _ g=>g) (fun _ _ g=>(Scr.of_altc rfl (g.1 _ fun _ _ g=>g) (fun _ _ g=>Scr.of_fs _ _ rfl g fun _ g=>g) trivial)) trivial))
set_option maxRecDepth 100000 in
set_option maxHeartbeats 4000000 in
theorem wtk_bad0(a1 a2:Option Addr)(n1 c1 n2 c2:Nat)(d t:Int)(w:World)(h:n1>12):Calls Try.prog 4 #[.slice a1 n1 c1,.slice a2 n2 c2,.int .u8 d,.int .u8 t] w fun e w' =>e= .returned (.bool true)∧Below w.heap.size w w':=by
 have t0:decide ((n1:Int)>12)=true:=decide_eq_true (by omega);clear h;go_enter Try.func4,Try.ntmps4;go_wp2_with fail
 with_reducible refine(known _).mono ?_
 rintro e w1 ⟨rfl,hb⟩;have HB:=Lib.hid hb;clear hb;go_wp2_with fail
 go_returns
 exact⟨rfl,HB.out⟩
set_option maxRecDepth 100000 in
set_option maxHeartbeats 4000000 in
theorem wtk_bad1(a1 a2:Option Addr)(n1 c1 n2 c2:Nat)(d t:Int)(w:World)(h:¬n1>12)(h1:n2>12):Calls Try.prog 4 #[.slice a1 n1 c1,.slice a2 n2 c2,.int .u8 d,.int .u8 t] w fun e w' =>e= .returned (.bool true)∧Below w.heap.size w w':=by
 have t0:decide ((n1:Int)>12)=false:=decide_eq_false (by omega);have t1:decide ((n2:Int)>12)=true:=decide_eq_true (by omega);clear h h1;go_enter Try.func4,Try.ntmps4;go_wp2_with fail
 with_reducible refine(known _).mono ?_
 rintro e w1 ⟨rfl,hb⟩;have HB:=Lib.hid hb;clear hb;go_wp2_with fail
 go_returns
 exact⟨rfl,HB.out⟩
set_option maxRecDepth 100000 in
set_option maxHeartbeats 4000000 in
theorem wtk_bad2(a1 a2:Option Addr)(n1 c1 n2 c2:Nat)(d t:Int)(w:World)(h:¬n1>12)(h1:¬n2>12)(h2:d>5):Calls Try.prog 4 #[.slice a1 n1 c1,.slice a2 n2 c2,.int .u8 d,.int .u8 t] w fun e w' =>e= .returned (.bool true)∧Below w.heap.size w w':=by
 have t0:decide ((n1:Int)>12)=false:=decide_eq_false (by omega);have t1:decide ((n2:Int)>12)=false:=decide_eq_false (by omega);have t2:decide ((d:Int)>5)=true:=decide_eq_true (by omega);clear h h1 h2;go_enter Try.func4,Try.ntmps4;go_wp2_with fail
 with_reducible refine(known _).mono ?_
 rintro e w1 ⟨rfl,hb⟩;have HB:=Lib.hid hb;clear hb;go_wp2_with fail
 go_returns
 exact⟨rfl,HB.out⟩
set_option maxRecDepth 100000 in
set_option maxHeartbeats 4000000 in
theorem wtk_bad3(a1 a2:Option Addr)(n1 c1 n2 c2:Nat)(d t:Int)(w:World)(h:¬n1>12)(h1:¬n2>12)(h2:¬d>5)(h3:t>10):Calls Try.prog 4 #[.slice a1 n1 c1,.slice a2 n2 c2,.int .u8 d,.int .u8 t] w fun e w' =>e= .returned (.bool true)∧Below w.heap.size w w':=by
 have t0:decide ((n1:Int)>12)=false:=decide_eq_false (by omega);have t1:decide ((n2:Int)>12)=false:=decide_eq_false (by omega);have t2:decide ((d:Int)>5)=false:=decide_eq_false (by omega);have t3:decide ((t:Int)>10)=true:=decide_eq_true (by omega);clear h h1 h2 h3;go_enter Try.func4,Try.ntmps4;go_wp2_with fail
 with_reducible refine(known _).mono ?_
 rintro e w1 ⟨rfl,hb⟩;have HB:=Lib.hid hb;clear hb;go_wp2_with fail
 go_returns
 exact⟨rfl,HB.out⟩
/-- toughness and zones, as the law takes them -/
def Plain.tzF(z1 z2:List Int)(j:Nat):Nat×Nat:=((z1.getD j 0).toNat%3,(z2.getD j 0).toNat%4)
theorem tzF_ok(z1 z2:List Int)(j:Nat):(tzF z1 z2 j).1<3∧(tzF z1 z2 j).2<4:=⟨Nat.mod_lt _ (by omega),Nat.mod_lt _ (by omega)⟩
theorem putAll{z:Nat}(hz:z<4):PutOk z:=by
 have:z=0∨z=1∨z=2∨z=3:=by omega
 rcases this with rfl|rfl|rfl|rfl
 ·exact fun s B x p lo hi w=>rput0 s B x p lo hi w
 ·exact fun s B x p lo hi w=>rput1 s B x p lo hi w
 ·exact fun s B x p lo hi w=>rput2 s B x p lo hi w
 ·exact fun s B x p lo hi w=>rput3 s B x p lo hi w
theorem knew2(v0 v1:Value)(w:World)(d:Nat)(f:Nat→Nat×Nat)(h0:Rw ic 1 w v0 [1])(h1:Rw ic 1 w v1 [1]):Calls Try.prog 6 #[.int .i64 9,.agg #[v0,v1]] w (BrA w (tsB d f 0) (.int .i64 0)):=rnew 9 [1] [1] v0 v1 w h0 h1 (by omega) (by decide) (by decide) (by decide)
theorem gtk{d:Nat}{f:Nat→Nat×Nat}{i:Nat}(hi:TsI d f i)(h3:i≤300)(p q jd:Nat)(s:Bs)(w:World)(hp:i%2=p)(hq:(f i).1=q)(hj:i+3=jd)(h:BdR w s (tsB d f i)):Calls Try.prog 11 #[bv s (tsB d f i),.int .i64 p,.int .i64 1,.int .i64 q,.int .i64 500] w (BrA w (tsK d f i) (.int .i64 jd)):=by
 subst hp hq hj;have h1:=rtoken s (tsB d f i) (i+2) (i%2) 1 ((f i).1:Nat) 500 w h hi.vb.sm hi.vb.tl hi.seq hi.len (by omega) (by omega) (Nat.mod_lt _ (by omega));rw[hi.len] at h1
 exact h1
theorem gmvt{d:Nat}{f:Nat→Nat×Nat}{i:Nat}(hi:TsI d f i)(h3:i≤300)(hf:(f i).1<3∧(f i).2<4)(z jd:Nat)(s:Bs)(w:World)(hz:(f i).2=z)(hne:z≠2)(hj:i+3=jd)(h:BdR w s (tsK d f i)):Calls Try.prog 7 #[bv s (tsK d f i),.int .i64 jd,.int .i64 z] w (CpA w (tsB d f (i+1))):=by
 subst hz hj;have hv:=tsK_vb hi h3 hf.1
 have h1:=rmoveZ (f i).2 (putAll hf.2) s (tsK d f i) (i+2) (tsT f i) (i%2) w h hv.sm hv.tl (tsK_at hi) (fun j q hj hq=>by
  have h4:=tsK_first hi j q hq
  show q.id≠((i+3:Nat):Int)
  omega) (Nat.mod_lt _ (by omega)) rfl
 rw[ts_goes hi hne] at h1
 exact h1
theorem gix{d:Nat}{f:Nat→Nat×Nat}{i:Nat}(hi:TsI d f i)(jd kx:Nat)(s:Bs)(w:World)(hj:i+3=jd)(hk:i+2=kx)(h:BdR w s (tsK d f i)):Calls Try.prog 12 #[bv s (tsK d f i),.int .i64 jd] w fun e w' =>e= .returned (.int .i64 kx)∧Below w.heap.size w w':=by
 subst hj hk
 refine(rindex s (tsK d f i) ((i+3:Nat):Int) w h).mono ?_
 rintro e w' ⟨⟨r,rfl,hr⟩,hb⟩
 obtain rfl:r=((i+2:Nat):Int):=by
  rcases hr with⟨_,h1⟩|⟨k,q,rfl,h2,h3,_⟩
  ·exact absurd rfl (h1 (i+2) (tsT f i) (tsK_at hi))
  ·have h4:=tsK_first hi k q h2
   rw[h3] at h4
   omega
 exact⟨rfl,hb⟩
theorem gckt{d:Nat}{f:Nat→Nat×Nat}{N t:Nat}(v:Value)(a:Nat)(s:Bs)(ck:Nat)(w:World)(hi:TsI d f N)(h3:N≤12)(hf:∀j,(f j).1<3∧(f j).2<4)(hck:cnt (twN d f) N+(N-cnt (liN d f) N)=ck)(hc:CsR w v (csP a))(h:BdR w s (tsB d f N)):Calls Try.prog 8 #[v,bv s (tsB d f N),.int .i64 t] w (BrP w (ckB (csP a) (tsB d f N) t) (.int .i64 ck) (.int .i64 0)):=by
 have h1:=check_ok v (csP a) s (tsB d f N) t w hc (csP_ci a) (csP_lt a) h hi.vb (by omega) (by rw[hi.len];omega);rw[(ts_res a hi hf t).1,hck] at h1
 exact h1
theorem gstx(v:Value)(a a2:Nat)(s:Bs)(B:Bd)(t:Int)(w:World)(hv:VB B)(hc:CsR w v (csP a))(h:BdR w s (ckB (csP a2) B t)):Calls Try.prog 13 #[v,bv s (ckB (csP a2) B t)] w fun e w' =>e= .returned (.bool true)∧Below w.heap.size w w':=by
 obtain⟨h1,h2,h3⟩:=ckB_ok (csP a2) hv t
 have h4:=bstable_ok v ((csP a).map Prod.fst) s (ckB (csP a2) B t) w hc.row (csP_ci a) h h1;rw[csP_dyL,←csP_dyL a2,h3,h2] at h4
 exact h4
theorem ck_eq{d:Nat}{f:Nat→Nat×Nat}{N ck lf tw bl:Nat}(h1:cnt (twN d f) N+(N-cnt (liN d f) N)=ck)(h2:lf=2+cnt (liN d f) N)(h3:tw=cnt (twN d f) N)(h4:bl=N+2):(ck:Int)=(bl:Int)-(lf:Int)+(tw:Int):=by
 have:=cnt_le (liN d f) N
 omega
def TwL(w:World)(N d:Nat)(f:Nat→Nat×Nat)(lv v:Value)(wr:World):Prop:=∃i:Nat,i≤N∧v= .int .i64 i∧lv= .int .i64 ((cnt (twN d f) i:Nat):Int)∧Below w.heap.size w wr
def TsL(w we:World)(nb N d:Nat)(f:Nat→Nat×Nat)(lv v:Value)(wr:World):Prop:=∃(i:Nat) (s':Bs),i≤N∧v= .int .i64 i∧lv= .int .i64 ((2+cnt (liN d f) i:Nat):Int)∧Below w.heap.size w wr∧Below we.heap.size we wr∧Bx wr nb s' (tsB d f i)∧BdO we.heap.size wr.heap.size wr s' (tsB d f i)
set_option maxRecDepth 100000 in
set_option maxHeartbeats 4000000 in
theorem wtk_ok(a1 a2:Option Addr)(c1 c2:Nat)(z1 z2:List Int)(d t:Nat)(w:World)(h1:Seg w .u8 (.slice a1 z1.length c1) z1)(h2:Seg w .u8 (.slice a2 z2.length c2) z2)(hz1:∀z∈z1,0≤z∧z≤255)(hz2:∀z∈z2,0≤z∧z≤255)(hl1:z1.length≤12)(hl2:z2.length≤12)(hd:d≤5)(ht:t≤10):Calls Try.prog 4 #[.slice a1 z1.length c1,.slice a2 z2.length c2,.int .u8 (d:Int),.int .u8 (t:Int)] w fun e w' =>e= .returned (.bool true)∧Below w.heap.size w w':=by
 have t0:decide ((z1.length:Int)>12)=false:=decide_eq_false (by omega);have t1:decide ((z2.length:Int)>12)=false:=decide_eq_false (by omega);have t2:decide ((d:Int)>5)=false:=decide_eq_false (by omega);have t3:decide ((t:Int)>10)=false:=decide_eq_false (by omega)
 obtain⟨f,hf⟩:∃f,f=tzF z1 z2:=⟨_,rfl⟩
 have HF:=Lib.hid hf;have HFO:Hid (∀j,(f j).1<3∧(f j).2<4):=Lib.hid (by rw[hf];exact tzF_ok z1 z2);have HTI:Hid (∀i,i≤12→TsI d f i):=Lib.hid (fun i hi=>tsI d f hd HFO.out i (by omega))
 obtain⟨N,hN⟩:∃N,N=min z1.length z2.length:=⟨_,rfl⟩
 have HNN:=Lib.hid hN;have hN12:N≤12:=by omega
 have HS1:=Lib.hid h1;have HS2:=Lib.hid h2;have HZ1:=Lib.hid hz1;have HZ2:=Lib.hid hz2;have HB:Hid (Below w.heap.size w w):=Lib.hid (Below.refl _ _)
 obtain⟨n1,hn1⟩:∃n,n=z1.length:=⟨_,rfl⟩
 obtain⟨n2,hn2⟩:∃n,n=z2.length:=⟨_,rfl⟩
 rw[←hn1] at HS1 HNN hl1 t0 ⊢
 rw[←hn2] at HS2 HNN hl2 t1 ⊢
 have HL1:=Lib.hid hn1;have HL2:=Lib.hid hn2;clear h1 h2 hz1 hz2 hf hN hn1 hn2;go_enter Try.func4,Try.ntmps4
 go_upto_region 3 with fail
 clear t0 t1 t2 t3;go_wp2_with fail
 obtain⟨we,hwe⟩:∃W,W=((w.alloc (.cells #[.int .i64 1] 3)).alloc (.cells #[.int .i64 1] 3)):=⟨_,rfl⟩
 rw[←hwe];have b1:Below w.heap.size w (w.alloc (.cells #[.int .i64 1] 3)):=(Below.refl _ _).alloc (Nat.le_refl _) _;have b2:Below (w.alloc (.cells #[.int .i64 1] 3)).heap.size (w.alloc (.cells #[.int .i64 1] 3)) we:=by rw[hwe];exact(Below.refl _ _).alloc (Nat.le_refl _) _
 have hb:=below_via b1 b2;have HD0:Hid (Rw ic 1 we (.slice (some ⟨w.heap.size,0,none⟩) 1 1) [1]):=Lib.hid ((Rw.one2 (f:=ic) (sz:=1) w 3 (1:Int) #[.int .i64 1] rfl 1 w.heap.size rfl).below b2)
 have HD1:Hid (Rw ic 1 we (.slice (some ⟨w.heap.size+1,0,none⟩) 1 1) [1]):=Lib.hid (by
  have h1:=Rw.one2 (f:=ic) (sz:=1) (w.alloc (.cells #[.int .i64 1] 3)) 3 (1:Int) #[.int .i64 1] rfl 1 (w.heap.size+1) (by simp);rw[←hwe] at h1
  exact h1)
 replace HB:=Lib.hid (below_via HB.out hb);have HC1:Hid (w.heap.size≤we.heap.size):=Lib.hid (hb.size);have HBE:Hid (Below we.heap.size we we):=Lib.hid (Below.refl _ _);clear hwe b1 b2 hb;with_reducible refine(knew2 _ _ _ d f HD0.out HD1.out).mono ?_
 rintro e w1 ⟨sb,rfl,ho,hb⟩;have HC2:Hid (we.heap.size≤w1.heap.size):=Lib.hid (hb.size);replace HB:=Lib.hid (below_via HB.out hb);replace HBE:=Lib.hid (below_via HBE.out hb);have HOb:=Lib.hid ho;clear ho hb;clear HD0 HD1;go_wp2_with (first|(refine wpList_store_bh rfl _ _ rfl rfl rfl (heap_alloc_new _ _) rfl ?_))
 intro w2 hw0;have hbx:=boxed hw0.out
 obtain⟨nb,hn⟩:∃n,n=w1.heap.size:=⟨_,rfl⟩
 rw[←hn] at hbx ⊢
 have hb:=hbx.1;rw[hn] at hb
 clear hw0;replace HB:=Lib.hid (below_via HB.out hb);replace HOb:=Lib.hid (HOb.out.below hb);replace HBE:=Lib.hid (below_via HBE.out hb);have HXb:Hid (Bx w2 nb sb ((tsB d f 0))):=Lib.hid hbx.2;have HC3:Hid (w1.heap.size≤nb∧nb<w2.heap.size):=Lib.hid (⟨by omega,hbx.2.lt⟩);clear hbx hn hb;have HNB:Hid (w.heap.size≤we.heap.size∧we.heap.size≤nb):=Lib.hid (by(have o0:=HC1.out;have o1:=HC2.out;have o2:=HC3.out;have x0:=HXb.out.lt;omega));have HO1:Hid (BdO we.heap.size w2.heap.size w2 sb (tsB d f 0)):=Lib.hid (HOb.out.mono (Nat.le_refl _) (by(have o0:=HC1.out;have o1:=HC2.out;have o2:=HC3.out;have x0:=HXb.out.lt;omega)));clear HOb HC1 HC2 HC3;go_wp2_with fail
 go_loopw [11,12] (fun lv v wr=>TsL w we nb N d f lv v wr) (fun _ v _=>N-(intOf v).toNat)
 case atStart=>exact⟨0,sb,by omega,rfl,rfl,HB.out,HBE.out,HXb.out,HO1.out⟩
 case round=>
  obtain⟨i,s',hi,rfl,rfl,hb,hbe,hx,ho⟩:=hrel
  replace HB:=Lib.hid hb;replace HBE:=Lib.hid hbe;replace HXb:=Lib.hid hx;replace HO1:=Lib.hid ho;clear hb hbe hx ho;have HIX:=Lib.hid (HTI.out i (by omega))
  obtain⟨lf,hlf⟩:∃l,l=2+cnt (liN d f) i:=⟨_,rfl⟩
  have hlf2:lf≤14:=by have:=cnt_le (liN d f) i;omega
  rw[←hlf];have HLF:=Lib.hid hlf;clear hlf
  by_cases hin:i<N
  case pos=>
   have HWB:Hid (nb<wr.heap.size∧we.heap.size≤wr.heap.size):=Lib.hid ⟨HXb.out.lt,HBE.out.size⟩;have HIN:=Lib.hid hin;have hi1:i<n1:=by have:=HNN.out;omega
   have hi2:i<n2:=by have:=HNN.out;omega
   obtain⟨x1,hx1⟩:∃x,z1[i]? =some x:=⟨_,List.getElem?_eq_getElem (by have:=HL1.out;omega)⟩
   obtain⟨x2,hx2⟩:∃x,z2[i]? =some x:=⟨_,List.getElem?_eq_getElem (by have:=HL2.out;omega)⟩
   obtain⟨y1,rfl⟩:∃y:Nat,x1=y:=⟨x1.toNat,by have:=HZ1.out x1 (List.mem_of_getElem? hx1);omega⟩
   obtain⟨y2,rfl⟩:∃y:Nat,x2=y:=⟨x2.toNat,by have:=HZ2.out x2 (List.mem_of_getElem? hx2);omega⟩
   have h81:=HZ1.out _ (List.mem_of_getElem? hx1);have h82:=HZ2.out _ (List.mem_of_getElem? hx2)
   obtain⟨_,b1,o1,c1',hv1,hb1,hc1⟩:=HS1.out.some (fun e=>by rw[e] at hx1;cases hx1)
   obtain⟨_,b2,o2,c2',hv2,hb2,hc2⟩:=HS2.out.some (fun e=>by rw[e] at hx2;cases hx2)
   simp only[Value.slice.injEq] at hv1 hv2
   obtain⟨rfl,e91,rfl⟩:=hv1
   obtain⟨rfl,e92,rfl⟩:=hv2
   clear e91 e92;have HE1:Hid (∀W,Below w.heap.size w W→W.cell? ⟨b1,o1+i,none⟩=some (.int .u8 (y1:Nat))):=Lib.hid (fun W hb=>(hb.cell (p:=⟨b1,o1+i,none⟩) hb1).trans (hc1 i _ hx1));have HE2:Hid (∀W,Below w.heap.size w W→W.cell? ⟨b2,o2+i,none⟩=some (.int .u8 (y2:Nat))):=Lib.hid (fun W hb=>(hb.cell (p:=⟨b2,o2+i,none⟩) hb2).trans (hc2 i _ hx2))
   obtain⟨q,hq⟩:∃q,q=y1%3:=⟨_,rfl⟩
   obtain⟨zn,hzn⟩:∃q,q=y2%4:=⟨_,rfl⟩
   obtain⟨p,hp⟩:∃q,q=i%2:=⟨_,rfl⟩
   have HQ:Hid ((f i).1=q):=Lib.hid (by rw[HF.out,hq];unfold tzF;rw[List.getD_eq_getElem?_getD,hx1];rfl);have HZN:Hid ((f i).2=zn):=Lib.hid (by rw[HF.out,hzn];unfold tzF;simp only[List.getD_eq_getElem?_getD,hx2];rfl);have HP:Hid (i%2=p):=Lib.hid hp.symm;have hq3:q<3:=by omega
   have hz4:zn<4:=by omega
   have hp2:p<2:=by omega
   have m1:Int.tmod (y1:Int) 3=(q:Int):=by rw[hq];rfl
   have m2:(y1:Int)%3=(q:Int):=by rw[hq];rfl
   have m3:y1%3=q:=hq.symm;have m4:Int.tmod (y2:Int) 4=(zn:Int):=by rw[hzn];rfl
   have m5:(y2:Int)%4=(zn:Int):=by rw[hzn];rfl
   have m6:y2%4=zn:=hzn.symm;have m7:Int.tmod (i:Int) 2=(p:Int):=by rw[hp];rfl
   have m8:(i:Int)%2=(p:Int):=by rw[hp];rfl
   have m9:i%2=p:=hp.symm
   obtain⟨jd,hjd⟩:∃j,i+3=j:=⟨_,rfl⟩
   have HJD:=Lib.hid hjd;have t1:decide ((i:Int)<(n1:Int))=true:=decide_eq_true (by omega);have t1':decide (i<n1)=true:=decide_eq_true hi1;have t2:decide ((i:Int)<(n2:Int))=true:=decide_eq_true (by omega);have t2':decide (i<n2)=true:=decide_eq_true hi2;have e1:wr.cell? ⟨b1,o1+i,none⟩=some (.int .u8 (y1:Nat)):=HE1.out _ HB.out;have j1:(0:Int)≤(i:Int):=by omega
   have j2:(i:Int)<(n1:Int):=by omega
   have j3:(i:Int)<(n2:Int):=by omega
   clear hx1 hx2 hc1 hc2 hb1 hb2 hq hzn hp hjd
   go_upto_region 9 with fail
   clear t1 t1' t2 t2' e1 j2 m1 m2 m3;go_wp2_with (first|(refine wpList_load_bx _ rfl rfl HXb.out (by kernel_rfl) ?_))
   with_reducible refine(gtk HIX.out (by omega) p q jd _ _ HP.out HQ.out HJD.out HO1.out.rd).mono ?_
   rintro e wy1 ⟨sc,rfl,ho,hb⟩;have HCy1:Hid (wr.heap.size≤wy1.heap.size):=Lib.hid (hb.size);replace HB:=Lib.hid (below_via HB.out hb);replace HXb:=Lib.hid (HXb.out.below hb);replace HBE:=Lib.hid (below_via HBE.out hb);have HOc:=Lib.hid ho;clear ho hb;clear m7 m8 m9;go_wp2_with (first|(refine wpList_store_bh rfl _ _ rfl rfl rfl (heap_alloc_new _ _) rfl ?_))
   intro wy2 hw0;have hbx:=boxed hw0.out
   obtain⟨nc,hn⟩:∃n,n=wy1.heap.size:=⟨_,rfl⟩
   rw[←hn] at hbx ⊢
   have hb:=hbx.1;rw[hn] at hb
   clear hw0;replace HB:=Lib.hid (below_via HB.out hb);replace HXb:=Lib.hid (HXb.out.below hb);replace HOc:=Lib.hid (HOc.out.below hb);replace HBE:=Lib.hid (below_via HBE.out hb);have HXc:Hid (Bx wy2 nc sc ((tsK d f i))):=Lib.hid hbx.2;have HCy2:Hid (wy1.heap.size≤nc∧nc<wy2.heap.size):=Lib.hid (⟨by omega,hbx.2.lt⟩);clear hbx hn hb;go_wp2_with (first|(refine wpList_store_bh (s:=sc) (B:=(tsK d f i)) rfl _ _ rfl rfl rfl HXb.out rfl ?_)|(refine wpList_load_bx _ rfl rfl HXc.out (by kernel_rfl) ?_))
   intro wy3 hw0;have hon:Onl [nb] wy2 wy3:=by rw[hw0.out];exact Onl.setRow (Onl.refl _ _) (.inl (by simp)) _
   have hx:Bx wy3 (nb) sc ((tsK d f i)):=by rw[hw0.out];exact Bx.row HXb.out _ _
   clear hw0;have hlo:w.heap.size≤nb:=by(have o0:=HNB.out;have o1:=HWB.out;have o2:=HCy1.out;have o3:=HCy2.out;have x0:=HXb.out.lt;have x1:=HXc.out.lt;omega)
   have hls:w.heap.size≤wy2.heap.size:=HB.out.size;replace HB:=Lib.hid (belowOnl HB.out hon (by simp only[List.mem_singleton,forall_eq];exact hlo) hls);replace HBE:=Lib.hid (belowOnl HBE.out hon (by simp only[List.mem_singleton,forall_eq];(have o0:=HNB.out;have o1:=HWB.out;have o2:=HCy1.out;have o3:=HCy2.out;have x0:=HXb.out.lt;have x1:=HXc.out.lt;omega)) HBE.out.size);replace HXc:=Lib.hid (HXc.out.onl hon (by simp only[List.mem_singleton];(have o0:=HNB.out;have o1:=HWB.out;have o2:=HCy1.out;have o3:=HCy2.out;have x0:=HXb.out.lt;have x1:=HXc.out.lt;omega)));replace HOc:=Lib.hid (HOc.out.onlB hon HXb.out);have HCy3:Hid (wy2.heap.size≤wy3.heap.size):=Lib.hid (hon.size);clear hlo hls;replace HXb:=Lib.hid hx;clear hx hon;have e2:wy3.cell? ⟨b2,o2+i,none⟩=some (.int .u8 (y2:Nat)):=HE2.out _ HB.out
   go_upto_region 12 with fail
   clear e2 m4 m5 m6 j3
   by_cases hz:zn=2
   ·have u1:((zn:Int) !=2)=false:=by rw[hz];rfl
    have u1':(zn !=2)=false:=by rw[hz];rfl
    have HZ2:Hid ((f i).2=2):=Lib.hid (HZN.out.trans hz)
    obtain⟨kx,hkx⟩:∃k,i+2=k:=⟨_,rfl⟩
    have HKX:=Lib.hid hkx;have hjk:jd=kx+1:=by have:=HJD.out;omega
    have hln:(tsK d f i).ob.length=jd:=by rw[tsK_ob HIX.out,List.length_append,HIX.out.len,←HJD.out];rfl
    obtain⟨g,cap,hov,hg1,hg2,hg3⟩:=Ox.pos HOc.out.ob (by rw[hln];omega)
    rw[hln] at hov
    have HOV:=Lib.hid hov;have HGL:Hid ((wr.heap.size)≤g∧g<(wy1.heap.size)):=Lib.hid ⟨hg1,hg2⟩;have HAT:Hid ((tsK d f i).ob[kx]? =some (tsT f i)):=Lib.hid (by rw[←hkx];exact tsK_at HIX.out);have c0:wy3.cell? ⟨nb,0,none⟩=some (.slice (some ⟨g,0,none⟩) jd cap):=(HXb.out.cell 0).trans (congrArg some hov);have hnb:nb<wy3.heap.size:=HXb.out.lt;have i1:(0:Int)≤(kx:Int):=by omega
    have i2:(kx:Int)<(jd:Int):=by omega
    clear hz hkx hln hov hg1 hg2 hg3 hjk
    go_upto_region 14 with fail
    clear u1 u1';refine rg4_14 (w0:=wy3) (B:=wy3.heap.size) (n:=wy3.heap.size) (L:=[]) (by kernel_rfl) rfl (by kernel_rfl) (.t ⟨by go_grown,by go_size,(by simp[go_sem]<;>omega)⟩) (fun w91 K_w91 E_w91 F_w91=> ?_);have _ne:Nonempty (KX (wy3.heap.size) wy3 (wy3.heap.size) [] (fun _=>True)):=⟨⟨_,K_w91,E_w91⟩⟩;have qb0:∀W',(∃s':KX (wy3.heap.size) wy3 (wy3.heap.size) [] (fun _=>True),W' =s'.val)→Bx W' (nb) sc ((tsK d f i)):=by rintro _ ⟨s',rfl⟩;exact HXb.out.below s'.kept.below
    repeat (first|(go_big_quiet_want;(first|apply quiet_load_bx _ rfl rfl qb0);(focus(simp[go_sem];rfl));go_big_quiet_on)|go_big_quiet_step (fail))
    refine wpQuiet_nil ?_;have ra:=rck _ne c0 hnb
    repeat (first|(go_big_quiet_want;(first|apply quiet_load_bx _ rfl rfl qb0);(focus(simp[go_sem];rfl));go_big_quiet_on)|go_big_quiet_step (fail))
    refine wpQuiet_nil ?_;have KH_w91:=Lib.hid K_w91;have hw_w91:=K_w91.below;have hz_w91:=K_w91.size;clear K_w91;clear E_w91 F_w91
    refine⟨fun K hK0=> ?_,trivial⟩
    have hK:=Lib.hid hK0;clear hK0;go_wp2_with fail
    with_reducible refine(gix HIX.out jd kx sc _ HJD.out HKX.out (HOc.out.rd.below KH_w91.out.below)).mono ?_
    rintro e wk ⟨rfl,hb⟩;have HW:Hid (Below wy3.heap.size wy3 wk):=Lib.hid (below_via KH_w91.out.below hb);clear hb;go_wp2_with fail
    first|refine⟨rfl,?u,hK.out _ _ ?_⟩|refine⟨?u,hK.out _ _ ?_⟩
    case u=>exact⟨⟨_,(⟨HW.out,HW.out.size,by simp⟩:Kept wy3.heap.size wy3 wy3.heap.size [] wk),trivial⟩,rfl⟩
    clear hK K
    repeat (first|(go_big_quiet_want;(first|apply quiet_load_bx _ rfl rfl qb0);(focus(simp[go_sem];rfl));go_big_quiet_on)|go_big_quiet_step (fail))
    refine wpQuiet_nil ?_
    refine⟨fun K hK0=> ?_,trivial⟩
    have hK:=Lib.hid hK0;clear hK0;have hb:=HW.out;replace HB:=Lib.hid (below_via HB.out hb);replace HXb:=Lib.hid (HXb.out.below hb);replace HXc:=Lib.hid (HXc.out.below hb);replace HOc:=Lib.hid (HOc.out.below hb);replace HBE:=Lib.hid (below_via HBE.out hb);have HCys4:Hid (wy3.heap.size≤wk.heap.size):=Lib.hid (hb.size);clear hb HW c0 hnb;have cq:wk.cell? ⟨g,kx*12+5,none⟩=some (.int .i64 0):=(HOc.out.cellOb HOV.out (k:=kx) (j:=5) (x:=(tsT f i)) (HAT.out) rfl (kx*12+5) rfl).1;have fq:wk.frozen? ⟨g,kx*12+5,none⟩=false:=(HOc.out.cellOb HOV.out (k:=kx) (j:=5) (x:=(tsT f i)) (u:= .int .i64 0) (HAT.out) rfl (kx*12+5) rfl).2;go_wp2_with fail
    obtain⟨wst,hw⟩:∃W,W=wk.setCell ⟨g,kx*12+5,none⟩ (.int .i64 (d:Nat)):=⟨_,rfl⟩
    rw[←hw];have hon:Onl [g] wk wst:=by rw[hw];exact Onl.setCell (Onl.refl _ _) (.inl (by simp)) _
    have hbo:BdO (wr.heap.size) (wy1.heap.size) wst sc ((setB (tsK d f i) kx (daO (tsT f i) d))):=by rw[hw];exact HOc.out.setC HOV.out (k:=kx) (j:=5) (x:=(tsT f i)) (x':=(daO (tsT f i) d)) (HAT.out) (by decide) rfl (kx*12+5) rfl
    have hgl:=HGL.out;clear hw cq fq;replace HB:=Lib.hid (belowOnl HB.out hon (by simp only[List.mem_singleton,forall_eq];(have o0:=HNB.out;have o1:=HWB.out;have o2:=HCy1.out;have o3:=HCy2.out;have o4:=HCy3.out;have o5:=HCys4.out;have x0:=HXb.out.lt;have x1:=HXc.out.lt;omega)) HB.out.size);replace HXb:=Lib.hid (HXb.out.onl hon (by simp only[List.mem_singleton];(have o0:=HNB.out;have o1:=HWB.out;have o2:=HCy1.out;have o3:=HCy2.out;have o4:=HCy3.out;have o5:=HCys4.out;have x0:=HXb.out.lt;have x1:=HXc.out.lt;omega)));replace HXc:=Lib.hid (HXc.out.onl hon (by simp only[List.mem_singleton];(have o0:=HNB.out;have o1:=HWB.out;have o2:=HCy1.out;have o3:=HCy2.out;have o4:=HCy3.out;have o5:=HCys4.out;have x0:=HXb.out.lt;have x1:=HXc.out.lt;omega)));replace HBE:=Lib.hid (belowOnl HBE.out hon (by simp only[List.mem_singleton,forall_eq];(have o0:=HNB.out;have o1:=HWB.out;have o2:=HCy1.out;have o3:=HCy2.out;have o4:=HCy3.out;have o5:=HCys4.out;have x0:=HXb.out.lt;have x1:=HXc.out.lt;omega)) HBE.out.size);replace HOc:=Lib.hid hbo;have HCys5:Hid (wk.heap.size≤wst.heap.size):=Lib.hid (hon.size);clear hon hbo hgl;replace HXb:Hid (Bx wst (nb) sc ((setB (tsK d f i) kx (daO (tsT f i) d)))):=HXb
    first|refine⟨rfl,hK.out _ _ ?_⟩|refine hK.out _ _ ?_
    clear hK K;clear ra;clear _ne qb0;have HST:Hid (setB (tsK d f i) kx (daO (tsT f i) d)=tsB d f (i+1)):=Lib.hid (by rw[←HKX.out];exact ts_stay HIX.out HZ2.out);rw[HST.out] at HXb HOc
    have HON:Hid (BdO we.heap.size wst.heap.size wst sc (tsB d f (i+1))):=Lib.hid (HOc.out.mono (by(have o0:=HNB.out;have o1:=HWB.out;have o2:=HCy1.out;have o3:=HCy2.out;have o4:=HCy3.out;have o5:=HCys4.out;have o6:=HCys5.out;have x0:=HXb.out.lt;have x1:=HXc.out.lt;omega)) (by(have o0:=HNB.out;have o1:=HWB.out;have o2:=HCy1.out;have o3:=HCy2.out;have o4:=HCy3.out;have o5:=HCys4.out;have o6:=HCys5.out;have x0:=HXb.out.lt;have x1:=HXc.out.lt;omega)));clear HOV HGL HAT i1 i2
    by_cases hqd:d<q
    ·have t5:decide ((q:Int)>(d:Int))=true:=decide_eq_true (by omega)
     have HLN:Hid (2+cnt (liN d f) (i+1)=lf+1):=Lib.hid (by rw[cnt_succ,HLF.out];unfold liN;rw[HZ2.out,HQ.out,decide_eq_true hqd];rfl);go_wp2_with fail
     go_roundw
     case rel=>exact⟨i+1,sc,by have:=HIN.out;omega,by go_num,by rw[HLN.out];go_num,HB.out,HBE.out,HXb.out,HON.out⟩
     case measure=>have:=HIN.out;simp[intOf];omega
    ·have t5:decide ((q:Int)>(d:Int))=false:=decide_eq_false (by omega)
     have HLN:Hid (2+cnt (liN d f) (i+1)=lf):=Lib.hid (by rw[cnt_succ,HLF.out];unfold liN;rw[HZ2.out,HQ.out,decide_eq_false hqd];rfl);go_wp2_with fail
     go_roundw
     case rel=>exact⟨i+1,sc,by have:=HIN.out;omega,by go_num,by rw[HLN.out],HB.out,HBE.out,HXb.out,HON.out⟩
     case measure=>have:=HIN.out;simp[intOf];omega
   ·have u1:((zn:Int) !=2)=true:=bne_iff_ne.2 (by omega)
    have u1':(zn !=2)=true:=bne_iff_ne.2 hz;have HNZ:=Lib.hid hz;have HLN:Hid (2+cnt (liN d f) (i+1)=lf):=Lib.hid (by rw[cnt_succ,HLF.out];unfold liN;rw[HZN.out,decide_eq_false hz];rfl);clear hz
    go_upto_region 13 with fail
    clear u1 u1';go_wp2_with (first|(refine wpList_load_bx _ rfl rfl HXb.out (by kernel_rfl) ?_))
    with_reducible refine(gmvt HIX.out (by omega) (HFO.out i) zn jd _ _ HZN.out HNZ.out HJD.out HOc.out.rd).mono ?_
    rintro e wyn4 ⟨sd,rfl,ho,hb⟩;have HCyn4:Hid (wy3.heap.size≤wyn4.heap.size):=Lib.hid (hb.size);replace HB:=Lib.hid (below_via HB.out hb);replace HXb:=Lib.hid (HXb.out.below hb);replace HXc:=Lib.hid (HXc.out.below hb);replace HOc:=Lib.hid (HOc.out.below hb);replace HBE:=Lib.hid (below_via HBE.out hb);have HOd:=Lib.hid ho;clear ho hb;go_wp2_with (first|(refine wpList_store_bh (s:=sd) (B:=(tsB d f (i+1))) rfl _ _ rfl rfl rfl HXb.out rfl ?_))
    intro wyn5 hw0;have hon:Onl [nb] wyn4 wyn5:=by rw[hw0.out];exact Onl.setRow (Onl.refl _ _) (.inl (by simp)) _
    have hx:Bx wyn5 (nb) sd ((tsB d f (i+1))):=by rw[hw0.out];exact Bx.row HXb.out _ _
    clear hw0;have hlo:w.heap.size≤nb:=by(have o0:=HNB.out;have o1:=HWB.out;have o2:=HCy1.out;have o3:=HCy2.out;have o4:=HCy3.out;have o5:=HCyn4.out;have x0:=HXb.out.lt;have x1:=HXc.out.lt;omega)
    have hls:w.heap.size≤wyn4.heap.size:=HB.out.size;replace HB:=Lib.hid (belowOnl HB.out hon (by simp only[List.mem_singleton,forall_eq];exact hlo) hls);replace HBE:=Lib.hid (belowOnl HBE.out hon (by simp only[List.mem_singleton,forall_eq];(have o0:=HNB.out;have o1:=HWB.out;have o2:=HCy1.out;have o3:=HCy2.out;have o4:=HCy3.out;have o5:=HCyn4.out;have x0:=HXb.out.lt;have x1:=HXc.out.lt;omega)) HBE.out.size);replace HXc:=Lib.hid (HXc.out.onl hon (by simp only[List.mem_singleton];(have o0:=HNB.out;have o1:=HWB.out;have o2:=HCy1.out;have o3:=HCy2.out;have o4:=HCy3.out;have o5:=HCyn4.out;have x0:=HXb.out.lt;have x1:=HXc.out.lt;omega)));replace HOc:=Lib.hid (HOc.out.onlB hon HXb.out);replace HOd:=Lib.hid (HOd.out.onlB hon HXb.out);have HCyn5:Hid (wyn4.heap.size≤wyn5.heap.size):=Lib.hid (hon.size);clear hlo hls;replace HXb:=Lib.hid hx;clear hx hon;have HON:Hid (BdO we.heap.size wyn5.heap.size wyn5 sd (tsB d f (i+1))):=Lib.hid (HOd.out.mono (by(have o0:=HNB.out;have o1:=HWB.out;have o2:=HCy1.out;have o3:=HCy2.out;have o4:=HCy3.out;have o5:=HCyn4.out;have o6:=HCyn5.out;have x0:=HXb.out.lt;have x1:=HXc.out.lt;omega)) (by(have o0:=HNB.out;have o1:=HWB.out;have o2:=HCy1.out;have o3:=HCy2.out;have o4:=HCy3.out;have o5:=HCyn4.out;have o6:=HCyn5.out;have x0:=HXb.out.lt;have x1:=HXc.out.lt;omega)));go_wp2_with fail
    go_roundw
    case rel=>exact⟨i+1,sd,by have:=HIN.out;omega,by go_num,by rw[HLN.out],HB.out,HBE.out,HXb.out,HON.out⟩
    case measure=>have:=HIN.out;simp[intOf];omega
  case neg=>
  obtain rfl:N=i:=by omega
  obtain⟨wb,rfl⟩:∃W,W=wr:=⟨_,rfl⟩
  clear hin hi HBE
  go_upto_region 6 with fail
  go_cut [55] from 46 (fun s0 wx=>s0= .bool false∧wx=wb)
  case first=>
   by_cases hc:N<n1
   ·have t1:decide ((N:Int)<(n1:Int))=true:=decide_eq_true (by omega)
    have t1':decide (N<n1)=true:=decide_eq_true hc;have t2:decide ((N:Int)<(n2:Int))=false:=decide_eq_false (by have:=HNN.out;omega);have t2':decide (N<n2)=false:=decide_eq_false (by have:=HNN.out;omega);go_wp2_with fail
    go_meet
    case rel=>exact⟨rfl,rfl⟩
   ·have t1:decide ((N:Int)<(n1:Int))=false:=decide_eq_false (by omega)
    have t1':decide (N<n1)=false:=decide_eq_false hc;go_wp2_with fail
    go_meet
    case rel=>exact⟨rfl,rfl⟩
  case rest=>
   obtain⟨wq,rfl⟩:∃W,W=wc:=⟨_,rfl⟩
   obtain⟨rfl,rfl⟩:=hcut
   obtain⟨ck,hck⟩:∃k,cnt (twN d f) N+(N-cnt (liN d f) N)=k:=⟨_,rfl⟩
   have HCK:=Lib.hid hck;have HQR:=Lib.hid HO1.out.rd;have hck2:ck≤24:=by have h1:=cnt_le (twN d f) N;omega
   clear hck HO1
   go_upto_region 17 with fail
   go_cut [17,18,19] from 46 (fun s2 s3 s4 wx=>∃nc sc a,s2= .pointer (some ⟨nc,0,none⟩)∧s3= .int .i64 ck∧s4= .int .i64 0∧Below wq.heap.size wq wx∧Bx wx nc sc (ckB (csP a) (tsB d f N) t)∧BdR wx sc (ckB (csP a) (tsB d f N) t))
   case first=>
    refine rg4_17 (w0:=wq) (B:=wq.heap.size) (n:=wq.heap.size) (L:=[]) (by kernel_rfl) rfl (by kernel_rfl) (.t ⟨by go_grown,by go_size,(by simp[go_sem]<;>omega)⟩) (fun w61 K_w61 E_w61 F_w61=> ?_);have _ne:Nonempty (KX (wq.heap.size) wq (wq.heap.size) [] (fun _=>True)):=⟨⟨_,K_w61,E_w61⟩⟩;have qb0:∀W',(∃s':KX (wq.heap.size) wq (wq.heap.size) [] (fun _=>True),W' =s'.val)→Bx W' nb s' (tsB d f N):=by rintro _ ⟨s2,rfl⟩;exact HXb.out.below s2.kept.below
    repeat (first|(go_big_quiet_want;(apply quiet_load_bx _ rfl rfl qb0);(focus(simp[go_sem];rfl));go_big_quiet_on)|go_big_quiet_step (fail))
    refine wpQuiet_nil ?_
    repeat (first|(go_big_quiet_want;(apply quiet_load_bx _ rfl rfl qb0);(focus(simp[go_sem];rfl));go_big_quiet_on)|go_big_quiet_step (fail))
    refine wpQuiet_nil ?_;have KH_w61:=Lib.hid K_w61;have hw_w61:=K_w61.below;have hz_w61:=K_w61.size;clear K_w61;clear E_w61 F_w61
    refine⟨fun K hK0=> ?_,fun K hK0=> ?_,trivial⟩
    ·skip
     have hK:=Lib.hid hK0;clear hK0;go_wp2_with fail
     with_reducible refine(lpool _).mono ?_
     rintro e v0 ⟨⟨vp,a,rfl,hp⟩,hb⟩;have HW:Hid (Below wq.heap.size wq v0):=Lib.hid (below_via KH_w61.out.below hb);have HP:=Lib.hid hp;clear hp hb;go_wp2_with fail
     first|refine⟨rfl,?u,hK.out _ _ ?_⟩|refine⟨?u,hK.out _ _ ?_⟩
     case u=>exact⟨⟨_,(⟨HW.out,HW.out.size,by simp⟩:Kept wq.heap.size wq wq.heap.size [] v0),trivial⟩,rfl⟩
     clear hK K
     refine⟨fun K hK0=> ?_,fun K hK0=> ?_,trivial⟩
     ·skip
      have hK:=Lib.hid hK0;clear hK0;go_wp2_with fail
      with_reducible refine(gckt vp a s' ck _ (HTI.out N (by omega)) (by omega) HFO.out HCK.out HP.out (HQR.out.below HW.out)).mono ?_
      rintro e v06 ⟨sc,rfl,ho,hb⟩;replace HW:Hid (Below wq.heap.size wq v06):=Lib.hid (below_via HW.out hb);replace HP:=Lib.hid (HP.out.below hb);have HC:=Lib.hid ho;clear ho hb;go_wp2_with fail
      first|refine⟨rfl,hK.out _ _ ?_⟩|refine hK.out _ _ ?_
      clear hK K
      repeat (first|(go_big_quiet_want;(apply quiet_load_bx _ rfl rfl qb0);(focus(simp[go_sem];rfl));go_big_quiet_on)|go_big_quiet_step (fail))
      refine wpQuiet_nil ?_
      refine⟨fun K hK0=> ?_,trivial⟩
      have hK:=Lib.hid hK0;clear hK0;go_wp2_with fail
      obtain⟨v06a,hw7⟩:∃W,W=v06.alloc (.cells (bcells nilS zeroB) 34):=⟨_,rfl⟩
      rw[zal,←hw7];have hb:Below v06.heap.size v06 v06a:=by rw[hw7];exact(Below.refl _ _).alloc (Nat.le_refl _) _
      obtain⟨nc,hnc⟩:∃n,n=v06.heap.size:=⟨_,rfl⟩
      rw[←hnc];have hnl:wq.heap.size≤nc:=by have h1:=HW.out.size;omega
      have HNL:=Lib.hid hnl;replace HW:Hid (Below wq.heap.size wq v06a):=Lib.hid (below_via HW.out hb);replace HP:=Lib.hid (HP.out.below hb);replace HC:=Lib.hid (HC.out.below hb);have HN2:Hid (Bx v06a nc nilS zeroB):=Lib.hid (by rw[hw7,hnc];exact Ro.new _ _ _);clear hw7 hb hnc hnl
      first|refine⟨rfl,?u,hK.out _ _ ?_⟩|refine⟨?u,hK.out _ _ ?_⟩
      case u=>exact⟨⟨_,(⟨HW.out,HW.out.size,by simp⟩:Kept wq.heap.size wq wq.heap.size [] v06a),trivial⟩,rfl⟩
      clear hK K
      refine⟨fun K hK0=> ?_,trivial⟩
      have hK:=Lib.hid hK0;clear hK0;go_wp2_with (refine wpList_store_bh (s:=sc) (B:=(ckB (csP a) (tsB d f N) t)) rfl _ _ rfl rfl rfl HN2.out rfl ?_)
      intro v9 hw9;have hon:Onl [nc] v06a v9:=by rw[hw9.out];exact Onl.setRow (Onl.refl _ _) (.inl (by simp)) _
      have HX9:Hid (Bx v9 nc sc (ckB (csP a) (tsB d f N) t)):=Lib.hid (by rw[hw9.out];exact Bx.row HN2.out _ _);have HC9:=Lib.hid (HC.out.onlB hon HN2.out).rd;have HW9:Hid (Below wq.heap.size wq v9):=Lib.hid (belowOnl HW.out hon (by simp only[List.mem_singleton,forall_eq];exact HNL.out) HW.out.size);clear hw9 hon
      first|refine⟨rfl,hK.out _ _ ?_⟩|refine hK.out _ _ ?_
      clear hK K
      repeat (first|(go_big_quiet_want;(apply quiet_load_bx _ rfl rfl qb0);(focus(simp[go_sem];rfl));go_big_quiet_on)|go_big_quiet_step (fail))
      refine wpQuiet_nil ?_;clear _ne qb0;go_wp2_with fail
      go_meet
      case rel=>exact⟨_,_,_,rfl,rfl,rfl,HW9.out,HX9.out,HC9.out⟩
     ·skip
      have hK:=Lib.hid hK0;clear hK0;go_wp2_with fail
      obtain⟨v0a,hw7⟩:∃W,W=v0.alloc (.cells (bcells nilS zeroB) 34):=⟨_,rfl⟩
      rw[zal,←hw7];have hb:Below v0.heap.size v0 v0a:=by rw[hw7];exact(Below.refl _ _).alloc (Nat.le_refl _) _
      obtain⟨nc,hnc⟩:∃n,n=v0.heap.size:=⟨_,rfl⟩
      rw[←hnc];have hnl:wq.heap.size≤nc:=by have h1:=HW.out.size;omega
      have HNL:=Lib.hid hnl;replace HW:Hid (Below wq.heap.size wq v0a):=Lib.hid (below_via HW.out hb);replace HP:=Lib.hid (HP.out.below hb);have HN2:Hid (Bx v0a nc nilS zeroB):=Lib.hid (by rw[hw7,hnc];exact Ro.new _ _ _);clear hw7 hb hnc hnl
      first|refine⟨rfl,?u,hK.out _ _ ?_⟩|refine⟨?u,hK.out _ _ ?_⟩
      case u=>exact⟨⟨_,(⟨HW.out,HW.out.size,by simp⟩:Kept wq.heap.size wq wq.heap.size [] v0a),trivial⟩,rfl⟩
      clear hK K
      refine⟨fun K hK0=> ?_,trivial⟩
      have hK:=Lib.hid hK0;clear hK0;go_wp2_with fail
      with_reducible refine(gckt vp a s' ck _ (HTI.out N (by omega)) (by omega) HFO.out HCK.out HP.out (HQR.out.below HW.out)).mono ?_
      rintro e v0a6 ⟨sc,rfl,ho,hb⟩;replace HW:Hid (Below wq.heap.size wq v0a6):=Lib.hid (below_via HW.out hb);replace HP:=Lib.hid (HP.out.below hb);replace HN2:=Lib.hid (HN2.out.below hb);have HC:=Lib.hid ho;clear ho hb;go_wp2_with fail
      first|refine⟨rfl,hK.out _ _ ?_⟩|refine hK.out _ _ ?_
      clear hK K
      repeat (first|(go_big_quiet_want;(apply quiet_load_bx _ rfl rfl qb0);(focus(simp[go_sem];rfl));go_big_quiet_on)|go_big_quiet_step (fail))
      refine wpQuiet_nil ?_
      refine⟨fun K hK0=> ?_,trivial⟩
      have hK:=Lib.hid hK0;clear hK0;go_wp2_with (refine wpList_store_bh (s:=sc) (B:=(ckB (csP a) (tsB d f N) t)) rfl _ _ rfl rfl rfl HN2.out rfl ?_)
      intro v9 hw9;have hon:Onl [nc] v0a6 v9:=by rw[hw9.out];exact Onl.setRow (Onl.refl _ _) (.inl (by simp)) _
      have HX9:Hid (Bx v9 nc sc (ckB (csP a) (tsB d f N) t)):=Lib.hid (by rw[hw9.out];exact Bx.row HN2.out _ _);have HC9:=Lib.hid (HC.out.onlB hon HN2.out).rd;have HW9:Hid (Below wq.heap.size wq v9):=Lib.hid (belowOnl HW.out hon (by simp only[List.mem_singleton,forall_eq];exact HNL.out) HW.out.size);clear hw9 hon
      first|refine⟨rfl,hK.out _ _ ?_⟩|refine hK.out _ _ ?_
      clear hK K
      repeat (first|(go_big_quiet_want;(apply quiet_load_bx _ rfl rfl qb0);(focus(simp[go_sem];rfl));go_big_quiet_on)|go_big_quiet_step (fail))
      refine wpQuiet_nil ?_;clear _ne qb0;go_wp2_with fail
      go_meet
      case rel=>exact⟨_,_,_,rfl,rfl,rfl,HW9.out,HX9.out,HC9.out⟩
    ·skip
     have hK:=Lib.hid hK0;clear hK0;go_wp2_with fail
     obtain⟨va,hw7⟩:∃W,W=w61.alloc (.cells (bcells nilS zeroB) 34):=⟨_,rfl⟩
     rw[zal,←hw7];have hb:Below w61.heap.size w61 va:=by rw[hw7];exact(Below.refl _ _).alloc (Nat.le_refl _) _
     obtain⟨nc,hnc⟩:∃n,n=w61.heap.size:=⟨_,rfl⟩
     rw[←hnc];have hnl:wq.heap.size≤nc:=by have h1:=KH_w61.out.below.size;omega
     have HNL:=Lib.hid hnl;have HW:Hid (Below wq.heap.size wq va):=Lib.hid (below_via KH_w61.out.below hb);have HN2:Hid (Bx va nc nilS zeroB):=Lib.hid (by rw[hw7,hnc];exact Ro.new _ _ _);clear hw7 hb hnc hnl
     first|refine⟨rfl,?u,hK.out _ _ ?_⟩|refine⟨?u,hK.out _ _ ?_⟩
     case u=>exact⟨⟨_,(⟨HW.out,HW.out.size,by simp⟩:Kept wq.heap.size wq wq.heap.size [] va),trivial⟩,rfl⟩
     clear hK K
     refine⟨fun K hK0=> ?_,trivial⟩
     have hK:=Lib.hid hK0;clear hK0;go_wp2_with fail
     with_reducible refine(lpool _).mono ?_
     rintro e va0 ⟨⟨vp,a,rfl,hp⟩,hb⟩;replace HW:Hid (Below wq.heap.size wq va0):=Lib.hid (below_via HW.out hb);replace HN2:=Lib.hid (HN2.out.below hb);have HP:=Lib.hid hp;clear hp hb;go_wp2_with fail
     first|refine⟨rfl,?u,hK.out _ _ ?_⟩|refine⟨?u,hK.out _ _ ?_⟩
     case u=>exact⟨⟨_,(⟨HW.out,HW.out.size,by simp⟩:Kept wq.heap.size wq wq.heap.size [] va0),trivial⟩,rfl⟩
     clear hK K
     refine⟨fun K hK0=> ?_,trivial⟩
     have hK:=Lib.hid hK0;clear hK0;go_wp2_with fail
     with_reducible refine(gckt vp a s' ck _ (HTI.out N (by omega)) (by omega) HFO.out HCK.out HP.out (HQR.out.below HW.out)).mono ?_
     rintro e va06 ⟨sc,rfl,ho,hb⟩;replace HW:Hid (Below wq.heap.size wq va06):=Lib.hid (below_via HW.out hb);replace HP:=Lib.hid (HP.out.below hb);replace HN2:=Lib.hid (HN2.out.below hb);have HC:=Lib.hid ho;clear ho hb;go_wp2_with fail
     first|refine⟨rfl,hK.out _ _ ?_⟩|refine hK.out _ _ ?_
     clear hK K
     repeat (first|(go_big_quiet_want;(apply quiet_load_bx _ rfl rfl qb0);(focus(simp[go_sem];rfl));go_big_quiet_on)|go_big_quiet_step (fail))
     refine wpQuiet_nil ?_
     refine⟨fun K hK0=> ?_,trivial⟩
     have hK:=Lib.hid hK0;clear hK0;go_wp2_with (refine wpList_store_bh (s:=sc) (B:=(ckB (csP a) (tsB d f N) t)) rfl _ _ rfl rfl rfl HN2.out rfl ?_)
     intro v9 hw9;have hon:Onl [nc] va06 v9:=by rw[hw9.out];exact Onl.setRow (Onl.refl _ _) (.inl (by simp)) _
     have HX9:Hid (Bx v9 nc sc (ckB (csP a) (tsB d f N) t)):=Lib.hid (by rw[hw9.out];exact Bx.row HN2.out _ _);have HC9:=Lib.hid (HC.out.onlB hon HN2.out).rd;have HW9:Hid (Below wq.heap.size wq v9):=Lib.hid (belowOnl HW.out hon (by simp only[List.mem_singleton,forall_eq];exact HNL.out) HW.out.size);clear hw9 hon
     first|refine⟨rfl,hK.out _ _ ?_⟩|refine hK.out _ _ ?_
     clear hK K
     repeat (first|(go_big_quiet_want;(apply quiet_load_bx _ rfl rfl qb0);(focus(simp[go_sem];rfl));go_big_quiet_on)|go_big_quiet_step (fail))
     refine wpQuiet_nil ?_;clear _ne qb0;go_wp2_with fail
     go_meet
     case rel=>exact⟨_,_,_,rfl,rfl,rfl,HW9.out,HX9.out,HC9.out⟩
   case rest=>
    obtain⟨wx,rfl⟩:∃W,W=wc:=⟨_,rfl⟩
    obtain⟨nc,sc,a,rfl,rfl,rfl,hb,hx,hr⟩:=hcut
    replace HB:=Lib.hid (below_via HB.out hb);replace HXb:=Lib.hid (HXb.out.below hb);replace HQR:=Lib.hid (HQR.out.below hb);have HXc:=Lib.hid hx;have HR:=Lib.hid hr
    obtain⟨_,r2,r3⟩:=ts_res a (HTI.out N (by omega)) HFO.out t
    have hlo:(ckB (csP a) (tsB d f N) t).ob.length=lf:=r2.trans HLF.out.symm
    obtain⟨_,oa,oc9,hov,_⟩:=HR.out.ob.form
    rw[hlo] at hov
    obtain⟨qa,qc,hq⟩:∃a c,sc.qu.v= .slice a 0 c:=by
     obtain⟨l,h1,h2,_⟩:=HR.out.qu
     obtain⟨_,a,c,h3,_⟩:=h2.form
     have h4:l.length=0:=by rw[←List.length_map (f:=Prod.fst),h1,r3];rfl
     exact⟨a,c,by rw[h3,h4]⟩
    obtain⟨_,ba,bc9,hbv,_⟩:=HQR.out.ob.form
    obtain⟨bl,hbl⟩:∃l,l=(tsB d f N).ob.length:=⟨_,rfl⟩
    rw[←hbl] at hbv
    have HBL:Hid (bl=N+2):=Lib.hid (hbl.trans (HTI.out N (by omega)).len);have HBV:=Lib.hid hbv;have c0:wx.cell? ⟨nc,0,none⟩=some (.slice oa lf oc9):=by rw[←hov];exact HXc.out.cell 0
    have c30:wx.cell? ⟨nc,30,none⟩=some (.slice qa 0 qc):=by rw[←hq];exact HXc.out.cell 30
    have hncl:nc<wx.heap.size:=HXc.out.lt;have u2:((lf:Int) !=(lf:Int))=false:=by simp
    have u2':(lf !=lf)=false:=by simp
    clear hb hx hr r2 r3 hlo hov hq hbl hbv
    go_upto_region 18 with fail
    refine rg4_18 (w0:=wx) (B:=wx.heap.size) (n:=wx.heap.size) (L:=[]) (by kernel_rfl) rfl (by kernel_rfl) (.t ⟨by go_grown,by go_size,(by simp[go_sem]<;>omega)⟩) (fun w91 K_w91 E_w91 F_w91=> ?_);have _ne:Nonempty (KX (wx.heap.size) wx (wx.heap.size) [] (fun _=>True)):=⟨⟨_,K_w91,E_w91⟩⟩;have qb0:∀W',(∃s':KX (wx.heap.size) wx (wx.heap.size) [] (fun _=>True),W' =s'.val)→Bx W' (nc) sc ((ckB (csP a) (tsB d f N) t)):=by rintro _ ⟨s',rfl⟩;exact HXc.out.below s'.kept.below
    repeat (first|(go_big_quiet_want;(first|apply quiet_load_bx _ rfl rfl qb0);(focus(simp[go_sem];rfl));go_big_quiet_on)|go_big_quiet_step (fail))
    refine wpQuiet_nil ?_;have ra:=rck _ne c0 hncl;have rb:=rck _ne c30 hncl
    repeat (first|(go_big_quiet_want;(first|apply quiet_load_bx _ rfl rfl qb0);(focus(simp[go_sem];rfl));go_big_quiet_on)|go_big_quiet_step (fail))
    refine wpQuiet_nil ?_
    repeat (first|(go_big_quiet_want;(first|apply quiet_load_bx _ rfl rfl qb0);(focus(simp[go_sem];rfl));go_big_quiet_on)|go_big_quiet_step (fail))
    refine wpQuiet_nil ?_
    repeat (first|(go_big_quiet_want;(first|apply quiet_load_bx _ rfl rfl qb0);(focus(simp[go_sem];rfl));go_big_quiet_on)|go_big_quiet_step (fail))
    refine wpQuiet_nil ?_
    repeat (first|(go_big_quiet_want;(first|apply quiet_load_bx _ rfl rfl qb0);(focus(simp[go_sem];rfl));go_big_quiet_on)|go_big_quiet_step (fail))
    refine wpQuiet_nil ?_
    repeat (first|(go_big_quiet_want;(first|apply quiet_load_bx _ rfl rfl qb0);(focus(simp[go_sem];rfl));go_big_quiet_on)|go_big_quiet_step (fail))
    refine wpQuiet_nil ?_;have KH_w91:=Lib.hid K_w91;have hw_w91:=K_w91.below;have hz_w91:=K_w91.size;clear K_w91;clear E_w91 F_w91
    refine⟨fun K hK0=> ?_,trivial⟩
    have hK:=Lib.hid hK0;clear hK0;go_wp2_with fail
    with_reducible refine(lpool _).mono ?_
    rintro e v1 ⟨⟨vp,a9,rfl,hp⟩,hb⟩;have HW:Hid (Below wx.heap.size wx v1):=Lib.hid (below_via KH_w91.out.below hb);have HP:=Lib.hid hp;clear hp hb;go_wp2_with fail
    first|refine⟨rfl,?u,hK.out _ _ ?_⟩|refine⟨?u,hK.out _ _ ?_⟩
    case u=>exact⟨⟨_,(⟨HW.out,HW.out.size,by simp⟩:Kept wx.heap.size wx wx.heap.size [] v1),trivial⟩,rfl⟩
    clear hK K
    refine⟨fun K hK0=> ?_,trivial⟩
    have hK:=Lib.hid hK0;clear hK0;go_wp2_with fail
    with_reducible refine(gstx vp a9 a sc _ _ _ (HTI.out N (by omega)).vb HP.out (HR.out.below HW.out)).mono ?_
    rintro e v2 ⟨rfl,hb⟩;replace HW:Hid (Below wx.heap.size wx v2):=Lib.hid (below_via HW.out hb);clear hb HP;go_wp2_with fail
    first|refine⟨rfl,hK.out _ _ ?_⟩|refine hK.out _ _ ?_
    clear hK K
    repeat (first|(go_big_quiet_want;(first|apply quiet_load_bx _ rfl rfl qb0);(focus(simp[go_sem];rfl));go_big_quiet_on)|go_big_quiet_step (fail))
    refine wpQuiet_nil ?_;clear ra rb;clear _ne qb0;clear c0 c30 hncl u2 u2' HR HXc;replace HB:=Lib.hid (below_via HB.out HW.out);replace HXb:=Lib.hid (HXb.out.below HW.out);clear HW;go_wp2_with fail
    go_loopw [20,21] (fun lv v wr=>TwL v2 N d f lv v wr) (fun _ v _=>N-(intOf v).toNat)
    case atStart=>exact⟨0,by omega,rfl,rfl,Below.refl _ _⟩
    case round=>
     obtain⟨i,hi,rfl,rfl,hb⟩:=hrel
     have HBI:=Lib.hid hb;clear hb
     obtain⟨tw,htw⟩:∃l,l=cnt (twN d f) i:=⟨_,rfl⟩
     have htw2:tw≤12:=by have:=cnt_le (twN d f) i;omega
     rw[←htw];have HTW:=Lib.hid htw;clear htw
     by_cases hin:i<N
     case pos=>
      have HIN:=Lib.hid hin;have hi1:i<n1:=by have:=HNN.out;omega
      have hi2:i<n2:=by have:=HNN.out;omega
      obtain⟨x1,hx1⟩:∃x,z1[i]? =some x:=⟨_,List.getElem?_eq_getElem (by have:=HL1.out;omega)⟩
      obtain⟨x2,hx2⟩:∃x,z2[i]? =some x:=⟨_,List.getElem?_eq_getElem (by have:=HL2.out;omega)⟩
      obtain⟨y1,rfl⟩:∃y:Nat,x1=y:=⟨x1.toNat,by have:=HZ1.out x1 (List.mem_of_getElem? hx1);omega⟩
      obtain⟨y2,rfl⟩:∃y:Nat,x2=y:=⟨x2.toNat,by have:=HZ2.out x2 (List.mem_of_getElem? hx2);omega⟩
      have h81:=HZ1.out _ (List.mem_of_getElem? hx1);have h82:=HZ2.out _ (List.mem_of_getElem? hx2)
      obtain⟨_,b1,o1,c1',hv1,hb1,hc1⟩:=HS1.out.some (fun e=>by rw[e] at hx1;cases hx1)
      obtain⟨_,b2,o2,c2',hv2,hb2,hc2⟩:=HS2.out.some (fun e=>by rw[e] at hx2;cases hx2)
      simp only[Value.slice.injEq] at hv1 hv2
      obtain⟨rfl,e91,rfl⟩:=hv1
      obtain⟨rfl,e92,rfl⟩:=hv2
      clear e91 e92;have HE1:Hid (∀W,Below w.heap.size w W→W.cell? ⟨b1,o1+i,none⟩=some (.int .u8 (y1:Nat))):=Lib.hid (fun W hb=>(hb.cell (p:=⟨b1,o1+i,none⟩) hb1).trans (hc1 i _ hx1));have HE2:Hid (∀W,Below w.heap.size w W→W.cell? ⟨b2,o2+i,none⟩=some (.int .u8 (y2:Nat))):=Lib.hid (fun W hb=>(hb.cell (p:=⟨b2,o2+i,none⟩) hb2).trans (hc2 i _ hx2))
      obtain⟨q,hq⟩:∃q,q=y1%3:=⟨_,rfl⟩
      obtain⟨zn,hzn⟩:∃q,q=y2%4:=⟨_,rfl⟩
      have HQ:Hid ((f i).1=q):=Lib.hid (by rw[HF.out,hq];unfold tzF;rw[List.getD_eq_getElem?_getD,hx1];rfl);have HZN:Hid ((f i).2=zn):=Lib.hid (by rw[HF.out,hzn];unfold tzF;simp only[List.getD_eq_getElem?_getD,hx2];rfl);have hq3:q<3:=by omega
      have hz4:zn<4:=by omega
      have m1:Int.tmod (y1:Int) 3=(q:Int):=by rw[hq];rfl
      have m2:(y1:Int)%3=(q:Int):=by rw[hq];rfl
      have m3:y1%3=q:=hq.symm;have m4:Int.tmod (y2:Int) 4=(zn:Int):=by rw[hzn];rfl
      have m5:(y2:Int)%4=(zn:Int):=by rw[hzn];rfl
      have m6:y2%4=zn:=hzn.symm;have t1:decide ((i:Int)<(n1:Int))=true:=decide_eq_true (by omega);have t1':decide (i<n1)=true:=decide_eq_true hi1;have t2:decide ((i:Int)<(n2:Int))=true:=decide_eq_true (by omega);have t2':decide (i<n2)=true:=decide_eq_true hi2;have j1:(0:Int)≤(i:Int):=by omega
      have j2:(i:Int)<(n1:Int):=by omega
      have j3:(i:Int)<(n2:Int):=by omega
      have e1:wr.cell? ⟨b1,o1+i,none⟩=some (.int .u8 (y1:Nat)):=HE1.out _ (below_via HB.out HBI.out);have e2:wr.cell? ⟨b2,o2+i,none⟩=some (.int .u8 (y2:Nat)):=HE2.out _ (below_via HB.out HBI.out);clear hx1 hx2 hc1 hc2 hb1 hb2 hq hzn HE1 HE2
      go_upto_region 24 with fail
      clear t1 t1' t2 t2'
      by_cases hz:zn=2
      ·by_cases hqd:q≤d
       ·have u1:((zn:Int)==2)=true:=beq_iff_eq.2 (by omega)
        have u1':(zn==2)=true:=beq_iff_eq.2 hz;have t5:decide ((q:Int)≤(d:Int))=true:=decide_eq_true (by omega);have HLN:Hid (cnt (twN d f) (i+1)=tw+1):=Lib.hid (by rw[cnt_succ,HTW.out];unfold twN;rw[HZN.out,HQ.out,decide_eq_true hz,decide_eq_true hqd];rfl);go_wp2_with fail
        go_roundw
        case rel=>exact⟨i+1,by have:=HIN.out;omega,by go_num,by rw[HLN.out];go_num,HBI.out⟩
        case measure=>have:=HIN.out;simp[intOf];omega
       ·have u1:((zn:Int)==2)=true:=beq_iff_eq.2 (by omega)
        have u1':(zn==2)=true:=beq_iff_eq.2 hz;have t5:decide ((q:Int)≤(d:Int))=false:=decide_eq_false (by omega);have HLN:Hid (cnt (twN d f) (i+1)=tw):=Lib.hid (by rw[cnt_succ,HTW.out];unfold twN;rw[HZN.out,HQ.out,decide_eq_true hz,decide_eq_false hqd];rfl);go_wp2_with fail
        go_roundw
        case rel=>exact⟨i+1,by have:=HIN.out;omega,by go_num,by rw[HLN.out],HBI.out⟩
        case measure=>have:=HIN.out;simp[intOf];omega
      ·have u1:((zn:Int)==2)=false:=beq_eq_false_iff_ne.2 (by omega)
       have u1':(zn==2)=false:=beq_eq_false_iff_ne.2 hz;have HLN:Hid (cnt (twN d f) (i+1)=tw):=Lib.hid (by rw[cnt_succ,HTW.out];unfold twN;rw[HZN.out,decide_eq_false hz];rfl);go_wp2_with fail
       go_roundw
       case rel=>exact⟨i+1,by have:=HIN.out;omega,by go_num,by rw[HLN.out],HBI.out⟩
       case measure=>have:=HIN.out;simp[intOf];omega
     case neg=>
     obtain rfl:N=i:=by omega
     obtain⟨wb2,rfl⟩:∃W,W=wr:=⟨_,rfl⟩
     clear hin hi
     go_upto_region 22 with fail
     go_cut [143] from 46 (fun s0 wx=>s0= .bool false∧wx=wb2)
     case first=>
      by_cases hc:N<n1
      ·have t1:decide ((N:Int)<(n1:Int))=true:=decide_eq_true (by omega)
       have t1':decide (N<n1)=true:=decide_eq_true hc;have t2:decide ((N:Int)<(n2:Int))=false:=decide_eq_false (by have:=HNN.out;omega);have t2':decide (N<n2)=false:=decide_eq_false (by have:=HNN.out;omega);go_wp2_with fail
       go_meet
       case rel=>exact⟨rfl,rfl⟩
      ·have t1:decide ((N:Int)<(n1:Int))=false:=decide_eq_false (by omega)
       have t1':decide (N<n1)=false:=decide_eq_false hc;go_wp2_with fail
       go_meet
       case rel=>exact⟨rfl,rfl⟩
     case rest=>
      obtain⟨wq,rfl⟩:∃W,W=wc:=⟨_,rfl⟩
      obtain⟨rfl,rfl⟩:=hcut
      have c0:wq.cell? ⟨nb,0,none⟩=some (.slice ba bl bc9):=by rw[←HBV.out];exact(HXb.out.below HBI.out).cell 0
      have hbl2:bl=N+2:=HBL.out;have hbl3:bl≤14:=by omega
      have HE:Hid ((ck:Int)=(bl:Int)-(lf:Int)+(tw:Int)):=Lib.hid (ck_eq HCK.out HLF.out HTW.out HBL.out);have u5:((ck:Int)==(bl:Int)-(lf:Int)+(tw:Int))=true:=beq_iff_eq.2 HE.out;clear hbl2;go_wp2_with fail
      with_reducible refine(known _).mono ?_
      rintro e w9 ⟨rfl,hb⟩;have HF:=Lib.hid (below_via (below_via HB.out HBI.out) hb);clear hb u5;go_wp2_with fail
      go_returns
      exact⟨rfl,HF.out⟩
theorem wtk(a1 a2:Option Addr)(n1 c1 n2 c2:Nat)(z1 z2:List Int)(d t:Int)(w:World)(h1:IsRow .u8 w a1 n1 c1 z1)(h2:IsRow .u8 w a2 n2 c2 z2)(hd:0≤d)(ht:0≤t):Calls Try.prog 4 #[.slice a1 n1 c1,.slice a2 n2 c2,.int .u8 d,.int .u8 t] w fun e w' =>e= .returned (.bool true)∧Below w.heap.size w w':=by
 by_cases k1:n1>12
 ·exact wtk_bad0 a1 a2 n1 c1 n2 c2 d t w k1
 by_cases k2:n2>12
 ·exact wtk_bad1 a1 a2 n1 c1 n2 c2 d t w k1 k2
 by_cases k3:d>5
 ·exact wtk_bad2 a1 a2 n1 c1 n2 c2 d t w k1 k2 k3
 by_cases k4:t>10
 ·exact wtk_bad3 a1 a2 n1 c1 n2 c2 d t w k1 k2 k3 k4
 obtain⟨l1,s1,f1⟩:=h1.seg
 obtain⟨l2,s2,f2⟩:=h2.seg
 have e1:(z1.take n1).length=n1:=by rw[List.length_take];omega
 have e2:(z2.take n2).length=n2:=by rw[List.length_take];omega
 obtain⟨dn,rfl⟩:∃n:Nat,d=n:=⟨d.toNat,by omega⟩
 obtain⟨tn,rfl⟩:∃n:Nat,t=n:=⟨t.toNat,by omega⟩
 have wf:∀z:Int,(Lit.int .u8 z).wf=true→0≤z∧z≤255:=fun z h=>by
  simp[Lit.wf,IntKind.min,IntKind.max,IntKind.signed,IntKind.bits] at h
  omega
 have h:=wtk_ok a1 a2 c1 c2 (z1.take n1) (z2.take n2) dn tn w (by rw[e1];exact s1) (by rw[e2];exact s2) (fun z hz=>wf z (f1 z hz)) (fun z hz=>wf z (f2 z hz)) (by omega) (by omega) (by omega) (by omega);rw[e1,e2] at h
 exact h
end Go.Proofs.Ytpbepnpnpopmfaa
