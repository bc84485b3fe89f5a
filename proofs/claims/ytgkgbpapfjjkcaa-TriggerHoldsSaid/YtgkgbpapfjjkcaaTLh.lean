/- Collecting in two parts, and what comes of it. Pure steps, by a law each. The law about collecting in two parts: the walk. -/
import Derived.Test.YtgkgbpapfjjkcaaTLp
import Derived.Test.YtgkgbpapfjjkcaaTLw
import Derived.Deep.DeepCutAuto
import Derived.LoopTactic
import Derived.Deep.MidRow
import Derived.Test.YtgkgbpapfjjkcaaRw
import Derived.Test.YtgkgbpapfjjkcaaBPl
import Derived.WalkKit
import Derived.Test.YtgkgbpapfjjkcaaTWo
import Derived.Deep.CutBlock
namespace Go.Proofs.Ytgkgbpapfjjkcaa
open Go.RowKit Plain
set_option linter.unusedVariables false
set_option linter.unusedSimpArgs false

theorem allL_co(cs:List (Cd×List (Int×Nat)))(B:Bd)(A:List It)(m:Int)(L:List Hp):allL cs (coB B A m) L=allL cs B L:=rfl
theorem room_co(B:Bd)(a b:Nat)(A:List It)(m:Int)(ha:A.length=a):room B (a+b) m=room B a m+room (coB B A m) b m:=by
 have h:=co_len B A m;rw[ha] at h
 unfold room at*
 omega
theorem co_co(B:Bd)(A1 A2:List It)(m:Int):coB (coB B A1 m) A2 m=coB B (A1++A2) m:=by
 have h:=room_co B A1.length A2.length A1 m rfl;have h1:=room_le B A1.length m;have hc:=co_len B A1 m
 have e:A1.take (room B A1.length m)++A2.take (room (coB B A1 m) A2.length m)=(A1++A2).take (room B (A1++A2).length m):=by
  rw[List.length_append,h,List.take_append]
  by_cases hf:room B A1.length m=A1.length
  ·have e1:A1.take (A1.length+room (coB B A1 m) A2.length m)=A1:=List.take_of_length_le (by omega)
   rw[hf,List.take_length,e1,Nat.add_sub_cancel_left]
  ·have h0:room (coB B A1 m) A2.length m=0:=by unfold room at*;omega
   rw[h0,Nat.add_zero,show room B A1.length m-A1.length=0 by omega]
 show({B with qu:=(B.qu++A1.take (room B A1.length m))++A2.take (room (coB B A1 m) A2.length m)}:Bd)={B with qu:=B.qu++(A1++A2).take (room B (A1++A2).length m)}
 rw[List.append_assoc,e]
/-- first those of the active player -/
theorem ordL_act{B:Bd}{k:Nat}{x y:It}(hx:(ordL B)[k]? =some x)(hy:(ordL B)[k+1]? =some y)(h:(y.pl==B.ac)=true):(x.pl !=B.ac)=false:=by
 unfold ordL at hx hy
 obtain⟨F,hF⟩:∃F,F=B.qu.filter (fun x=>x.pl==B.ac):=⟨_,rfl⟩
 obtain⟨G,hG⟩:∃G,G=B.qu.filter (fun x=> !(x.pl==B.ac)):=⟨_,rfl⟩
 rw[←hF,←hG] at hx hy
 have hlt:k+1<F.length:=by
  by_cases hl:k+1<F.length
  ·exact hl
  ·rw[List.getElem?_append_right (by omega)] at hy
   have hm:=List.mem_of_getElem? hy;rw[hG] at hm
   have:=(List.mem_filter.1 hm).2
   rw[h] at this
   cases this
 rw[List.getElem?_append_left (by omega)] at hx
 have hm:=List.mem_of_getElem? hx;rw[hF] at hm
 have:=(List.mem_filter.1 hm).2
 simp at this
 simp[this]
theorem drB_front{B:Bd}{A:List It}{m:Int}(h:B.st.length≤200):(drB (coB B A m)).st.take B.st.length=B.st:=by
 show((B.st++ordL (coB B A m)).take 200).take B.st.length=B.st
 rw[List.take_take,Nat.min_eq_left h,List.take_append_of_le_length (Nat.le_refl _),List.take_length]
theorem drB_back{B:Bd}{A:List It}{m:Int}(h:B.st.length≤200):(drB (coB B A m)).st.drop B.st.length=(ordL (coB B A m)).take ((drB (coB B A m)).st.length-B.st.length):=by
 have hl:(drB (coB B A m)).st.length=min 200 (B.st.length+(ordL (coB B A m)).length):=by rw[drB_len,ordL_len];rfl
 rw[hl]
 show((B.st++ordL (coB B A m)).take 200).drop B.st.length=_
 rw[List.take_append,List.take_of_length_le h,List.drop_left]
 by_cases hc:(ordL (coB B A m)).length≤200-B.st.length
 ·rw[List.take_of_length_le hc,List.take_of_length_le (by omega)]
 ·rw[show min 200 (B.st.length+(ordL (coB B A m)).length)-B.st.length=200-B.st.length by omega]
theorem co_front{B:Bd}{A:List It}{m:Int}:(coB B A m).qu.take B.qu.length=B.qu:=by
 show(B.qu++A.take _).take B.qu.length=B.qu
 rw[List.take_append_of_le_length (Nat.le_refl _),List.take_length]
/-- a slice of happenings, from k on -/
theorem haps_drop{w:World}{ha:Option Addr}{hcp kk:Nat}{L:List Hp}(h:Rw hpc 3 w (.slice ha L.length hcp) L)(hk:kk≤L.length)(hc:L.length≤hcp∧(ha=none→hcp=0)):(ha=none∧Rw hpc 3 w (.slice none (L.length-kk) (hcp-kk)) (L.drop kk))∨∃a,ha=some a∧(hcp=kk→Rw hpc 3 w (.slice (some a) (L.length-kk) 0) (L.drop kk))∧Rw hpc 3 w (.slice (some (a.add (kk*3))) (L.length-kk) (hcp-kk)) (L.drop kk):=by
 cases ha with
 |none=>
  have h0:=hc.2 rfl;have h1:L=[]:=List.eq_nil_of_length_eq_zero (by omega);subst h1;refine .inl ⟨rfl,.inl ⟨by simp,.inl ?_⟩⟩;rw[h0]
  simp
 |some a=>
  refine .inr ⟨a,rfl,?_⟩;rcases h with⟨rfl,h1⟩|⟨h0,h1,b,off,cap,hv,hlt,hc'⟩
  ·obtain rfl:kk=0:=by simpa using hk
   exact⟨fun _=> .inl ⟨by simp,.inr ⟨_,_,rfl⟩⟩,.inl ⟨by simp,.inr ⟨_,_,rfl⟩⟩⟩
  ·simp only[Value.slice.injEq,Option.some.injEq] at hv
   obtain⟨rfl,_,rfl⟩:=hv
   have hr:Rw hpc 3 w (.slice (some ⟨b,off,none⟩) L.length hcp) L:=Or.inr ⟨h0,h1,b,off,hcp,rfl,hlt,hc'⟩
   refine⟨fun h=>Rw.drop hr hk _ _ (fun h2=>by omega),?_⟩
   have e:(⟨b,off,none⟩:Addr).add (kk*3)=⟨b,off+kk*3,none⟩:=by
    unfold Addr.add
    by_cases h3:kk*3=0<;>simp[h3]
   rw[e];exact Rw.drop hr hk _ _ (fun _=>rfl)
theorem collectF(v:Value)(cs:List (Cd×List (Int×Nat)))(s:Bs)(B:Bd)(ha:Option Addr)(n hcp:Nat)(L:List Hp)(most:Int)(w:World)(X:Bd)(dn:Int)(hn:L.length=n)(hX:X=coB B (allL cs B L) most)(hd:dn=(allL cs B L).length-(room B (allL cs B L).length most:Nat))(hm:0≤most)(h:BdR w s B)(hv:VB B)(hc:CsR w v cs)(hl:Lt cs)(hh:Rw hpc 3 w (.slice ha n hcp) L)(hll:L.length≤210)(hid:∀x∈L,Plain.I x.id):Calls Try.prog 15 #[v,bv s B,.slice ha n hcp,.int .i64 most] w (BrP w X (.int .i64 dn) (.int .i64 0)):=by
 subst hX hd hn;exact collect_ok v cs s B ha hcp L most w hm h hv hc hl hh hll hid
section
variable {P:Program} {ops:Array Oper} {rest:List Oper} {op:Oper} {a:Act} {w:World} {Q:Exit→Act→World→Prop}
theorem wpList_val(v:Value)(hr:(execOp a.eval op).run P w= .ok (.value v) w)(hw:Region.wanted op (yielded ops a.tmps)=true)(hK:wpList P ops Q rest (a.put op.dst v) w):wpList P ops Q (op::rest) a w:=by
 unfold wpList;rw[if_pos hw];exact .inl (by unfold Oper.wp;rw[hr];exact hK)
/-- the rest of a region in which nothing is done any more: what is skipped, moved, picked -/
def runS(ops:Array Oper):List Oper→Act→Option Act
 |[],a=>some a
 |o::r,a=>
  if Region.wanted o (yielded ops a.tmps) then
   match o.op with
   | .move x=>runS ops r (a.put o.dst (a.eval x))
   | .pick c x y=>match a.eval c with
    | .bool b=>runS ops r (a.put o.dst (if b then a.eval x else a.eval y))
    |_=>none
   | .unOp .not _ x=>match a.eval x with
    | .bool b=>runS ops r (a.put o.dst (.bool !b))
    |_=>none
   |_=>none
  else runS ops r (a.put o.dst undef)
theorem wpList_run:∀(l:List Oper) (a a':Act) (w:World),runS ops l a=some a'→Q .normal a' w→wpList P ops Q l a w
 |[],a,a',w,h,hK=>by
  simp only[runS,Option.some.injEq] at h
  subst h;exact hK
 |o::r,a,a',w,h,hK=>by
  rw[runS] at h
  split at h
  ·rename_i hw
   split at h
   ·rename_i x ho
    exact wpList_val _ (by unfold execOp;simp only[ho];rfl) hw (wpList_run r _ a' w h hK)
   ·rename_i c x y ho
    split at h
    ·rename_i b hc
     exact wpList_val _ (by unfold execOp;simp only[ho,hc];rfl) hw (wpList_run r _ a' w h hK)
    ·cases h
   ·rename_i t x ho
    split at h
    ·rename_i b hc
     exact wpList_val _ (by unfold execOp;simp only[ho,hc];rfl) hw (wpList_run r _ a' w h hK)
    ·cases h
   ·cases h
  ·rename_i hw
   unfold wpList;rw[if_neg hw];exact wpList_run r _ a' w h hK
def setL(t:Array Value)(L:List (Nat×Value)):Array Value:=L.foldl (fun t p=>t.setIfInBounds p.1 p.2) t
theorem wpList_end{t:Array Value}{d:List Deferred}{o:Oper}{r:List Oper}(n:Nat)(L:List (Nat×Value))(hn:o.dst=some n)(h:runS ops (o::r) ⟨t,d⟩=some ⟨setL t L,d⟩)(hK:Q .normal ⟨setL t L,d⟩ w):wpList P ops Q (o::r) ⟨t,d⟩ w:=
 wpList_run _ _ _ _ h hK
end
theorem rg7_5{P:Program}{B n:Nat}{w0:World}{L:List (Nat×Nat×Value)}{E F:World→Prop}{id:Nat}{Q:Exit→Act→World→Prop}{a:Act}{w:World}{A:Array Oper}{o0 o1 o2 o3 o4 o5 o6 o7 o8 o9 o10 o11 o12 o13 o14:Oper}(hm:P.follows .mixedOrders=true)(hA:A=[o0,o1,o2,o3,o4,o5,o6,o7,o8,o9,o10,o11,o12,o13,o14].toArray)(hB:regOk A [1] [0,2,3,4,5,7,8,9,10,13,14] (.fs [0,2,3,4,5] (.rs [1] (.altc 6 (.fs [7,8,9,10] (.alt 11 (.altc 12 (.fs [13,14] .done) .stop) .stop)) (.alt 11 (.altc 6 (.fs [7,8,9,10] (.altc 12 (.fs [13,14] .done) .stop)) .stop) .stop))))=true)(c:RC B w0 n L E F w)
  (h:∀wk,Kept B w0 n L wk→E wk→F wk→wpQuiet P A (fun _=>True) (fun a0=>wpQuiet P A (fun w' =>∃s:KX B w0 n L E,w' =s.val) (fun a1=>((∀K2:Act→World→Prop,(∀a2 w2,wpQuiet P A (fun _=>True) (fun a3=>((∀K4:Act→World→Prop,(∀a4 w4,((∀K5:Act→World→Prop,(∀a5 w5,wpQuiet P A (fun _=>True) (fun a6=>Q .normal a6 w5) [o13,o14] a5→K5 a5 w5)→wpList P A (fun e a5 w5=>e= .normal∧K5 a5 w5) [o12] a4 w4)∧True)→K4 a4 w4)→wpList P A (fun e a4 w4=>e= .normal∧(∃s:KX B w0 n L E,w4=s.val)∧K4 a4 w4) [o11] a3 w2)∧True)) [o7,o8,o9,o10] a2→K2 a2 w2)→wpList P A (fun e a2 w2=>e= .normal∧K2 a2 w2) [o6] a1 wk)∧(∀K2:Act→World→Prop,(∀a2 w2,((∀K3:Act→World→Prop,(∀a3 w3,wpQuiet P A (fun _=>True) (fun a4=>((∀K5:Act→World→Prop,(∀a5 w5,wpQuiet P A (fun _=>True) (fun a6=>Q .normal a6 w5) [o13,o14] a5→K5 a5 w5)→wpList P A (fun e a5 w5=>e= .normal∧K5 a5 w5) [o12] a4 w3)∧True)) [o7,o8,o9,o10] a3→K3 a3 w3)→wpList P A (fun e a3 w3=>e= .normal∧K3 a3 w3) [o6] a2 w2)∧True)→K2 a2 w2)→wpList P A (fun e a2 w2=>e= .normal∧(∃s:KX B w0 n L E,w2=s.val)∧K2 a2 w2) [o11] a1 wk)∧True)) [o1] a0) [o0,o2,o3,o4,o5] a):(Code.region id A true).wp P Q a w:=by
 subst hA;exact wp_reg _ _ _ hm hB c (fun wk k e f=>have g:=h wk k e f;Scr.of_fs _ _ rfl g fun _ g=>Scr.of_rs _ _ rfl g fun _ g=>(Scr.of_altc rfl (g.1 _ fun _ _ g=>g) (fun _ _ g=>Scr.of_fs _ _ rfl g fun _ g=>(Scr.of_alt rfl (g.1 _ fun _ _ g=>g) (fun _ _ g=>(Scr.of_altc rfl (g.1 _ fun _ _ g=>g) (fun _ _ g=>Scr.of_fs _ _ rfl g fun _ g=>g) trivial)) trivial)) (Scr.of_alt rfl (g.2.1 _ fun _ _ g=>g) (fun _ _ g=>(Scr.of_altc rfl (g.1 _ fun _ _ g=>g) (fun _ _ g=>Scr.of_fs _ _ rfl g fun _ g=>(Scr.of_altc rfl (g.1 _ fun _ _ g=>g) (fun _ _ g=>Scr.of_fs _ _ rfl g fun _ g=>g) trivial)) trivial)) trivial)))
theorem rg7_13{P:Program}{B n:Nat}{w0:World}{L:List (Nat×Nat×Value)}{E F:World→Prop}{id:Nat}{Q:Exit→Act→World→Prop}{a:Act}{w:World}{A:Array Oper}{o0 o1 o2 o3 o4 o5 o6 o7 o8 o9 o10:Oper}(hm:P.follows .mixedOrders=true)(hA:A=[o0,o1,o2,o3,o4,o5,o6,o7,o8,o9,o10].toArray)(hB:regOk A [2,6] [0,1,3,4,5,8,9,10] (.fs [0,1,3,4,5] (.rs [2,6] (.altc 7 (.fs [8,9,10] .done) .stop)))=true)(c:RC B w0 n L E F w)
  (h:∀wk,Kept B w0 n L wk→E wk→F wk→wpQuiet P A (fun _=>True) (fun a0=>wpQuiet P A (fun w' =>∃s:KX B w0 n L E,w' =s.val) (fun a1=>((∀K2:Act→World→Prop,(∀a2 w2,wpQuiet P A (fun _=>True) (fun a3=>Q .normal a3 w2) [o8,o9,o10] a2→K2 a2 w2)→wpList P A (fun e a2 w2=>e= .normal∧K2 a2 w2) [o7] a1 wk)∧True)) [o2,o6] a0) [o0,o1,o3,o4,o5] a):(Code.region id A true).wp P Q a w:=by
 subst hA;exact wp_reg _ _ _ hm hB c (fun wk k e f=>have g:=h wk k e f;Scr.of_fs _ _ rfl g fun _ g=>Scr.of_rs _ _ rfl g fun _ g=>(Scr.of_altc rfl (g.1 _ fun _ _ g=>g) (fun _ _ g=>Scr.of_fs _ _ rfl g fun _ g=>g) trivial))
theorem rg7_15{P:Program}{B n:Nat}{w0:World}{L:List (Nat×Nat×Value)}{E F:World→Prop}{id:Nat}{Q:Exit→Act→World→Prop}{a:Act}{w:World}{A:Array Oper}{o0 o1 o2 o3 o4 o5 o6 o7 o8 o9 o10 o11 o12 o13 o14 o15 o16 o17 o18 o19 o20 o21 o22 o23 o24 o25 o26 o27 o28 o29 o30 o31 o32 o33 o34 o35 o36 o37 o38 o39 o40 o41 o42 o43 o44 o45 o46 o47:Oper}(hm:P.follows .mixedOrders=true)(hA:A=(o0::o1::o2::o3::o4::o5::o6::o7::o8::o9::o10::o11::o12::o13::o14::o15::o16::o17::o18::o19::o20::o21::o22::o23::o24::o25::o26::o27::o28::o29::o30::o31::o32::o33::o34::o35::o36::o37::o38::o39::o40::o41::o42::o43::o44::o45::o46::o47::[]).toArray)(hB:regOk A [3,9,15,16,29,40,44] [0,1,2,5,6,7,8,10,11,12,13,14,18,19,20,21,22,23,24,25,26,27,28,30,31,32,33,34,35,36,37,38,39,41,42,43,46,47] (.fs [0,1,2] (.rs [3] (.alt 4 (.fs [5,6,7,8,11] (.rs [9] (.fs [10,12,13,14] (.rs [15,16] (.alt 17 (.fs [18,19,20,21,22,23,24,25,26,27,28,31,33,35] (.rs [29] (.fs [30,32,34,36,37,38,39,41,43] (.rs [40] (.fs [42] (.rs [44] (.alt 45 (.fs [46,47] .done) .stop))))))) .stop))))) .stop)))=true)(c:RC B w0 n L E F w)
  (h:∀wk,Kept B w0 n L wk→E wk→F wk→wpQuiet P A (fun _=>True) (fun a0=>wpQuiet P A (fun w' =>∃s:KX B w0 n L E,w' =s.val) (fun a1=>((∀K2:Act→World→Prop,(∀a2 w2,wpQuiet P A (fun _=>True) (fun a3=>wpQuiet P A (fun w' =>∃s:KX B w0 n L E,w' =s.val) (fun a4=>wpQuiet P A (fun _=>True) (fun a5=>wpQuiet P A (fun w' =>∃s:KX B w0 n L E,w' =s.val) (fun a6=>((∀K7:Act→World→Prop,(∀a7 w7,wpQuiet P A (fun _=>True) (fun a8=>wpQuiet P A (fun w' =>∃s:KX B w0 n L E,w' =s.val) (fun a9=>wpQuiet P A (fun _=>True) (fun a10=>wpQuiet P A (fun w' =>∃s:KX B w0 n L E,w' =s.val) (fun a11=>wpQuiet P A (fun _=>True) (fun a12=>wpQuiet P A (fun w' =>∃s:KX B w0 n L E,w' =s.val) (fun a13=>((∀K14:Act→World→Prop,(∀a14 w14,wpQuiet P A (fun _=>True) (fun a15=>Q .normal a15 w14) [o46,o47] a14→K14 a14 w14)→wpList P A (fun e a14 w14=>e= .normal∧(∃s:KX B w0 n L E,w14=s.val)∧K14 a14 w14) [o45] a13 w7)∧True)) [o44] a12) [o42] a11) [o40] a10) [o30,o32,o34,o36,o37,o38,o39,o41,o43] a9) [o29] a8) [o18,o19,o20,o21,o22,o23,o24,o25,o26,o27,o28,o31,o33,o35] a7→K7 a7 w7)→wpList P A (fun e a7 w7=>e= .normal∧(∃s:KX B w0 n L E,w7=s.val)∧K7 a7 w7) [o17] a6 w2)∧True)) [o15,o16] a5) [o10,o12,o13,o14] a4) [o9] a3) [o5,o6,o7,o8,o11] a2→K2 a2 w2)→wpList P A (fun e a2 w2=>e= .normal∧(∃s:KX B w0 n L E,w2=s.val)∧K2 a2 w2) [o4] a1 wk)∧True)) [o3] a0) [o0,o1,o2] a):(Code.region id A true).wp P Q a w:=by
 subst hA;exact wp_reg _ _ _ hm hB c (fun wk k e f=>have g:=h wk k e f;Scr.of_fs _ _ rfl g fun _ g=>Scr.of_rs _ _ rfl g fun _ g=>(Scr.of_alt rfl (g.1 _ fun _ _ g=>g) (fun _ _ g=>Scr.of_fs _ _ rfl g fun _ g=>Scr.of_rs _ _ rfl g fun _ g=>Scr.of_fs _ _ rfl g fun _ g=>Scr.of_rs _ _ rfl g fun _ g=>(Scr.of_alt rfl (g.1 _ fun _ _ g=>g) (fun _ _ g=>Scr.of_fs _ _ rfl g fun _ g=>Scr.of_rs _ _ rfl g fun _ g=>Scr.of_fs _ _ rfl g fun _ g=>Scr.of_rs _ _ rfl g fun _ g=>Scr.of_fs _ _ rfl g fun _ g=>Scr.of_rs _ _ rfl g fun _ g=>(Scr.of_alt rfl (g.1 _ fun _ _ g=>g) (fun _ _ g=>Scr.of_fs _ _ rfl g fun _ g=>g) trivial)) trivial)) trivial))
theorem rg7_19{P:Program}{B n:Nat}{w0:World}{L:List (Nat×Nat×Value)}{E F:World→Prop}{id:Nat}{Q:Exit→Act→World→Prop}{a:Act}{w:World}{A:Array Oper}{o0 o1 o2 o3 o4 o5 o6 o7 o8 o9 o10 o11 o12 o13 o14 o15 o16 o17 o18 o19 o20 o21 o22 o23 o24 o25 o26 o27 o28 o29 o30 o31 o32 o33 o34 o35 o36 o37 o38 o39 o40 o41 o42 o43 o44 o45 o46 o47 o48 o49 o50 o51 o52 o53 o54 o55 o56 o57 o58 o59 o60 o61 o62 o63 o64 o65:Oper}(hm:P.follows .mixedOrders=true)(hA:A=(o0::o1::o2::o3::o4::o5::o6::o7::o8::o9::o10::o11::o12::o13::o14::o15::o16::o17::o18::o19::o20::o21::o22::o23::o24::o25::o26::o27::o28::o29::o30::o31::o32::o33::o34::o35::o36::o37::o38::o39::o40::o41::o42::o43::o44::o45::o46::o47::o48::o49::o50::o51::o52::o53::o54::o55::o56::o57::o58::o59::o60::o61::o62::o63::o64::o65::[]).toArray)(hB:regOk A [6,11,17,23,26,29,37,39,43,49,51,56,59] [0,1,2,3,4,5,7,8,9,10,13,14,15,16,18,19,20,21,22,24,25,27,28,30,31,32,33,34,35,36,38,40,41,42,45,46,47,48,50,52,53,54,55,57,58,60,61,62,64,65] (.fs [0,1,2,3,4,5] (.rs [6] (.fs [7,8,9,10] (.rs [11] (.alt 12 (.fs [13,14,15,16] (.rs [17] (.fs [18,19,20,21,22,25,28] (.rs [23] (.fs [24] (.rs [26] (.fs [27] (.rs [29] (.fs [30,31,32,33,34,35,36,38,42] (.rs [37,39] (.fs [40,41] (.rs [43] (.alt 44 (.fs [45,46,47,48,50,54,55,58] (.rs [49,51] (.fs [52,53] (.rs [56] (.fs [57] (.rs [59] (.fs [60,61,62] (.alt 63 (.fs [64,65] .done) .stop)))))))) .stop))))))))))))) .stop)))))=true)(c:RC B w0 n L E F w)
  (h:∀wk,Kept B w0 n L wk→E wk→F wk→wpQuiet P A (fun _=>True) (fun a0=>wpQuiet P A (fun w' =>∃s:KX B w0 n L E,w' =s.val) (fun a1=>wpQuiet P A (fun _=>True) (fun a2=>wpQuiet P A (fun w' =>∃s:KX B w0 n L E,w' =s.val) (fun a3=>((∀K4:Act→World→Prop,(∀a4 w4,wpQuiet P A (fun _=>True) (fun a5=>wpQuiet P A (fun w' =>∃s:KX B w0 n L E,w' =s.val) (fun a6=>wpQuiet P A (fun _=>True) (fun a7=>wpQuiet P A (fun w' =>∃s:KX B w0 n L E,w' =s.val) (fun a8=>wpQuiet P A (fun _=>True) (fun a9=>wpQuiet P A (fun w' =>∃s:KX B w0 n L E,w' =s.val) (fun a10=>wpQuiet P A (fun _=>True) (fun a11=>wpQuiet P A (fun w' =>∃s:KX B w0 n L E,w' =s.val) (fun a12=>wpQuiet P A (fun _=>True) (fun a13=>wpQuiet P A (fun w' =>∃s:KX B w0 n L E,w' =s.val) (fun a14=>wpQuiet P A (fun _=>True) (fun a15=>wpQuiet P A (fun w' =>∃s:KX B w0 n L E,w' =s.val) (fun a16=>((∀K17:Act→World→Prop,(∀a17 w17,wpQuiet P A (fun _=>True) (fun a18=>wpQuiet P A (fun w' =>∃s:KX B w0 n L E,w' =s.val) (fun a19=>wpQuiet P A (fun _=>True) (fun a20=>wpQuiet P A (fun w' =>∃s:KX B w0 n L E,w' =s.val) (fun a21=>wpQuiet P A (fun _=>True) (fun a22=>wpQuiet P A (fun w' =>∃s:KX B w0 n L E,w' =s.val) (fun a23=>wpQuiet P A (fun _=>True) (fun a24=>((∀K25:Act→World→Prop,(∀a25 w25,wpQuiet P A (fun _=>True) (fun a26=>Q .normal a26 w25) [o64,o65] a25→K25 a25 w25)→wpList P A (fun e a25 w25=>e= .normal∧(∃s:KX B w0 n L E,w25=s.val)∧K25 a25 w25) [o63] a24 w17)∧True)) [o60,o61,o62] a23) [o59] a22) [o57] a21) [o56] a20) [o52,o53] a19) [o49,o51] a18) [o45,o46,o47,o48,o50,o54,o55,o58] a17→K17 a17 w17)→wpList P A (fun e a17 w17=>e= .normal∧(∃s:KX B w0 n L E,w17=s.val)∧K17 a17 w17) [o44] a16 w4)∧True)) [o43] a15) [o40,o41] a14) [o37,o39] a13) [o30,o31,o32,o33,o34,o35,o36,o38,o42] a12) [o29] a11) [o27] a10) [o26] a9) [o24] a8) [o23] a7) [o18,o19,o20,o21,o22,o25,o28] a6) [o17] a5) [o13,o14,o15,o16] a4→K4 a4 w4)→wpList P A (fun e a4 w4=>e= .normal∧(∃s:KX B w0 n L E,w4=s.val)∧K4 a4 w4) [o12] a3 wk)∧True)) [o11] a2) [o7,o8,o9,o10] a1) [o6] a0) [o0,o1,o2,o3,o4,o5] a):(Code.region id A true).wp P Q a w:=by
 subst hA;exact wp_reg _ _ _ hm hB c (fun wk k e f=>have g:=h wk k e f;Scr.of_fs _ _ rfl g fun _ g=>Scr.of_rs _ _ rfl g fun _ g=>Scr.of_fs _ _ rfl g fun _ g=>Scr.of_rs _ _ rfl g fun _ g=>(Scr.of_alt rfl (g.1 _ fun _ _ g=>g) (fun _ _ g=>Scr.of_fs _ _ rfl g fun _ g=>Scr.of_rs _ _ rfl g fun _ g=>Scr.of_fs _ _ rfl g fun _ g=>Scr.of_rs _ _ rfl g fun _ g=>Scr.of_fs _ _ rfl g fun _ g=>Scr.of_rs _ _ rfl g fun _ g=>Scr.of_fs _ _ rfl g fun _ g=>Scr.of_rs _ _ rfl g fun _ g=>Scr.of_fs _ _ rfl g fun _ g=>Scr.of_rs _ _ rfl g fun _ g=>Scr.of_fs _ _ rfl g fun _ g=>Scr.of_rs _ _ rfl g fun _ g=>(Scr.of_alt rfl (g.1 _ fun _ _ g=>g) (fun _ _ g=>Scr.of_fs _ _ rfl g fun _ g=>Scr.of_rs _ _ rfl g fun _ g=>Scr.of_fs _ _ rfl g fun _ g=>Scr.of_rs _ _ rfl g fun _ g=>Scr.of_fs _ _ rfl g fun _ g=>Scr.of_rs _ _ rfl g fun _ g=>Scr.of_fs _ _ rfl g fun _ g=>(Scr.of_alt rfl (g.1 _ fun _ _ g=>g) (fun _ _ g=>Scr.of_fs _ _ rfl g fun _ g=>g) trivial)) trivial)) trivial))
theorem rg7_24{P:Program}{B n:Nat}{w0:World}{L:List (Nat×Nat×Value)}{E F:World→Prop}{id:Nat}{Q:Exit→Act→World→Prop}{a:Act}{w:World}{A:Array Oper}{o0 o1 o2 o3 o4 o5 o6 o7 o8 o9 o10 o11 o12 o13 o14 o15 o16 o17 o18:Oper}(hm:P.follows .mixedOrders=true)(hA:A=[o0,o1,o2,o3,o4,o5,o6,o7,o8,o9,o10,o11,o12,o13,o14,o15,o16,o17,o18].toArray)(hB:regOk A [4,6,14,16] [0,1,2,3,5,7,8,9,10,11,12,13,15,17,18] (.fs [0,1,2,3,5] (.rs [4,6] (.fs [7,8,9,10,11,12,13,15] (.rs [14,16] (.fs [17,18] .done)))))=true)(c:RC B w0 n L E F w)
  (h:∀wk,Kept B w0 n L wk→E wk→F wk→wpQuiet P A (fun _=>True) (fun a0=>wpQuiet P A (fun w' =>∃s:KX B w0 n L E,w' =s.val) (fun a1=>wpQuiet P A (fun _=>True) (fun a2=>wpQuiet P A (fun w' =>∃s:KX B w0 n L E,w' =s.val) (fun a3=>wpQuiet P A (fun _=>True) (fun a4=>Q .normal a4 wk) [o17,o18] a3) [o14,o16] a2) [o7,o8,o9,o10,o11,o12,o13,o15] a1) [o4,o6] a0) [o0,o1,o2,o3,o5] a):(Code.region id A true).wp P Q a w:=by
 subst hA;exact wp_reg _ _ _ hm hB c (fun wk k e f=>have g:=h wk k e f;Scr.of_fs _ _ rfl g fun _ g=>Scr.of_rs _ _ rfl g fun _ g=>Scr.of_fs _ _ rfl g fun _ g=>Scr.of_rs _ _ rfl g fun _ g=>Scr.of_fs _ _ rfl g fun _ g=>g)
theorem ItR.take{w:World}{a:Option Addr}{n c:Nat}{l:List It}(h:ItR w (.slice a n c) l){k:Nat}(hk:k≤n)(hc:a=none→c=0):ItR w (.slice a k c) (l.take k):=by
 obtain⟨l',h1,h2,h3⟩:=h
 exact⟨l'.take k,by rw[List.map_take,h1],h2.take hk c hc,fun x hx=>h3 x (List.mem_of_mem_take hx)⟩
theorem ItR.drop{w:World}{b off n c:Nat}{l:List It}(h:ItR w (.slice (some ⟨b,off,none⟩) n c) l){k:Nat}(hk:k≤n)(c' o':Nat)(ho:k<n→o' =off+k*5):ItR w (.slice (some ⟨b,o',none⟩) (n-k) c') (l.drop k):=by
 obtain⟨l',h1,h2,h3⟩:=h
 exact⟨l'.drop k,by rw[List.map_drop,h1],h2.drop hk c' o' ho,fun x hx=>h3 x (List.mem_of_mem_drop hx)⟩
theorem ItO.cap{lo hi:Nat}{w:World}{v:Value}{l:List It}(h:ItO lo hi w v l):∃a c,v= .slice a l.length c∧l.length≤c∧(a=none→c=0):=by
 obtain⟨l',h1,h2,_⟩:=h
 obtain⟨a,c,rfl⟩:=h2.1.form
 have h3:=Ow.cap h2.1;have e:l'.length=l.length:=by rw[←h1,List.length_map]
 rw[e] at h3 ⊢
 exact⟨a,c,rfl,h3⟩
theorem ItO.pos0{lo hi:Nat}{w:World}{a:Option Addr}{n c:Nat}{l:List It}(h:ItO lo hi w (.slice a n c) l):a=none∨∃g,a=some ⟨g,0,none⟩:=by
 obtain⟨l',_,h2,_⟩:=h
 rcases h2.1.2 with⟨h3,_⟩|⟨g,cap,cur,h3,_⟩
 ·simp only[Value.slice.injEq] at h3
  exact .inl h3.1
 ·simp only[Value.slice.injEq] at h3
  exact .inr ⟨g,h3.1⟩
theorem hofx(v:Value)(cs:List (Cd×List (Int×Nat)))(s:Bs)(B:Bd)(x:Hp)(w:World)(hc:CsR w v cs)(hl:Lt cs)(h:BdR w s B)(hid:Plain.I x.id)(hv:VB B):Calls Try.prog 12 #[v,bv s B,.agg #[.int .i64 x.wh,.int .i64 x.id,.int .i64 x.pl]] w (OfA w (hapK cs B x.wh x.id x.pl B.ob)):=hof v cs s B x.wh x.id x.pl w hc hl h hv.i hv.sm hid hv
theorem w64{z:Int}(h1:0≤z)(h2:z≤1000000):wrap64 z=z:=by unfold wrap64;omega
theorem cut5{g tc bs dl:Nat}(h1:dl≤tc):∃o':Nat,(if tc=bs then (some (⟨g,0,none⟩:Addr)) else some ⟨g,bs*5,none⟩)=some ⟨g,o',none⟩∧(bs<dl→o' =0+bs*5):=by
 by_cases h:tc=bs
 ·exact⟨0,by rw[if_pos h],fun h2=>by omega⟩
 ·exact⟨bs*5,by rw[if_neg h],fun _=>(Nat.zero_add _).symm⟩
/-- how many triggers there are, so far -/
def HoL(W:World)(cs:List (Cd×List (Int×Nat)))(B:Bd)(L:List Hp)(av i:Value)(wr:World):Prop:=∃(m:Nat) (z:Int),m≤L.length∧av= .int .i64 z∧z=((allL cs B (L.take m)).length:Nat)∧i= .int .i64 m∧Below W.heap.size W wr
def HoO(W:World)(n:Nat)(i:Value)(wr:World):Prop:=∃m:Nat,1≤m∧(m≤n∨m=1)∧i= .int .i64 m∧Below W.heap.size W wr
theorem brvalidT(s:Bs)(B:Bd)(w:World)(h:BdR w s B)(hv:VB B):Calls Try.prog 16 #[bv s B] w fun e w' =>e= .returned (.bool true)∧Below w.heap.size w w':=(brvalid s B w h hv.i hv.sm).mono (fun e w' h=>by
 obtain⟨⟨r,h1,h2⟩,hb⟩:=h
 have:=h2.2 hv
 subst this
 exact⟨h1,hb⟩)
set_option maxRecDepth 100000 in
set_option maxHeartbeats 4000000 in
theorem wth(v:Value)(cs:List (Cd×List (Int×Nat)))(s:Bs)(B:Bd)(ha:Option Addr)(hcp:Nat)(L:List Hp)(most at':Int)(w:World)(hc:CsR w v cs)(h:BdR w s B)(hi:B.I)(hh:Rw hpc 3 w (.slice ha L.length hcp) L)(hid:∀x∈L,Plain.I x.id)(hcap:L.length≤hcp∧(ha=none→hcp=0))(hat:0≤at'∧at'≤255):Calls Try.prog 7 #[v,bv s B,.slice ha L.length hcp,.int .i64 most,.int .u8 at'] w fun e w' =>e= .returned (.bool true)∧Below w.heap.size w w':=by
 have HCS:=Lib.hid hc;have HR:=Lib.hid h;have HI:=Lib.hid hi;have HHS:=Lib.hid hh;have HID:=Lib.hid hid;have HCAP:=Lib.hid hcap;have HAT:=Lib.hid hat;clear hc h hi hh hid hcap hat;go_enter Try.func7,Try.ntmps7
 go_upto_region 1 with fail
 change Code.wp Try.prog _ _ _ (w.alloc (.cells (bcells s B) 34))
 obtain⟨wz,hwz⟩:∃W,W=(w.alloc (.cells (bcells s B) 34)):=⟨_,rfl⟩
 rw[←hwz];have b0:Below w.heap.size w wz:=by rw[hwz];exact(Below.refl _ _).alloc (Nat.le_refl _) _
 have HB:Hid (Below w.heap.size w wz):=Lib.hid b0;have HXb:Hid (Bx wz (w.heap.size) s B):=Lib.hid (by rw[hwz];exact(Ro.new w (bcells s B) 34));have HC1:Hid (w.heap.size+1≤wz.heap.size):=Lib.hid (by rw[hwz];simp);clear hwz b0;go_wp2_with fail
 with_reducible refine(llight v cs _ (HCS.out.below HB.out)).mono ?_
 rintro e w1 ⟨⟨r,rfl,hr⟩,hb⟩;have HC2:Hid (wz.heap.size≤w1.heap.size):=Lib.hid (hb.size);replace HB:=Lib.hid (below_via HB.out hb);replace HXb:=Lib.hid (HXb.out.below hb);clear hb
 cases r
 ·go_upto_if 48 with(refine no_implicit_lambda%(wpList_end 31 [(31,undef),(32,undef),(33,undef),(34,.bool true),(35,.bool true),(36,undef),(37,undef),(38,undef),(39,.bool true),(40,.bool true),(41,undef),(42,undef),(43,undef),(44,.bool true),(45,.bool true),(46,undef),(47,undef),(48,.bool true)] rfl (by kernel_rfl) ?_);simp only[setL,List.foldl,List.setIfInBounds_toArray,List.set_cons_zero,List.set_cons_succ])
  go_wp2_with fail
  with_reducible refine(known _).mono ?_
  rintro e w2 ⟨rfl,hb⟩;have HC3:Hid (w1.heap.size≤w2.heap.size):=Lib.hid (hb.size);replace HB:=Lib.hid (below_via HB.out hb);replace HXb:=Lib.hid (HXb.out.below hb);clear hb;go_wp2_with fail
  go_returns
  exact⟨rfl,HB.out⟩
 have HL:=Lib.hid (hr rfl);clear hr;go_wp2_with (first|(refine wpList_load_bx _ rfl rfl HXb.out (by kernel_rfl) ?_))
 with_reducible refine(bsmall s B _ (HR.out.below HB.out)).mono ?_
 rintro e w2 ⟨⟨r,rfl,hr⟩,hb⟩;have HC3:Hid (w1.heap.size≤w2.heap.size):=Lib.hid (hb.size);replace HB:=Lib.hid (below_via HB.out hb);replace HXb:=Lib.hid (HXb.out.below hb);clear hb
 cases r
 ·go_upto_if 48 with(refine no_implicit_lambda%(wpList_end 34 [(34,.bool true),(35,.bool true),(36,undef),(37,undef),(38,undef),(39,.bool true),(40,.bool true),(41,undef),(42,undef),(43,undef),(44,.bool true),(45,.bool true),(46,undef),(47,undef),(48,.bool true)] rfl (by kernel_rfl) ?_);simp only[setL,List.foldl,List.setIfInBounds_toArray,List.set_cons_zero,List.set_cons_succ])
  go_wp2_with fail
  with_reducible refine(known _).mono ?_
  rintro e w3 ⟨rfl,hb⟩;have HC4:Hid (w2.heap.size≤w3.heap.size):=Lib.hid (hb.size);replace HB:=Lib.hid (below_via HB.out hb);replace HXb:=Lib.hid (HXb.out.below hb);clear hb;go_wp2_with fail
  go_returns
  exact⟨rfl,HB.out⟩
 have HTY:=Lib.hid (hr rfl);have HSM:=Lib.hid (Tiny.sm HTY.out);have HTL:=Lib.hid (Tiny.tl HTY.out);clear hr;go_wp2_with (first|(refine wpList_load_bx _ rfl rfl HXb.out (by kernel_rfl) ?_))
 with_reducible refine(brvalid s B _ (HR.out.below HB.out) HI.out HSM.out).mono ?_
 rintro e w3 ⟨⟨r,rfl,hr⟩,hb⟩;have HC4:Hid (w2.heap.size≤w3.heap.size):=Lib.hid (hb.size);replace HB:=Lib.hid (below_via HB.out hb);replace HXb:=Lib.hid (HXb.out.below hb);clear hb
 cases r
 ·go_upto_if 48 with(refine no_implicit_lambda%(wpList_end 39 [(39,.bool true),(40,.bool true),(41,undef),(42,undef),(43,undef),(44,.bool true),(45,.bool true),(46,undef),(47,undef),(48,.bool true)] rfl (by kernel_rfl) ?_);simp only[setL,List.foldl,List.setIfInBounds_toArray,List.set_cons_zero,List.set_cons_succ])
  go_wp2_with fail
  with_reducible refine(known _).mono ?_
  rintro e w4 ⟨rfl,hb⟩;have HC5:Hid (w3.heap.size≤w4.heap.size):=Lib.hid (hb.size);replace HB:=Lib.hid (below_via HB.out hb);replace HXb:=Lib.hid (HXb.out.below hb);clear hb;go_wp2_with fail
  go_returns
  exact⟨rfl,HB.out⟩
 have HV:Hid (VB B):=Lib.hid (hr.1 rfl);clear hr
 by_cases hl20:20<L.length
 ·have t1:decide (L.length>20)=true:=decide_eq_true hl20
  have t1':decide ((L.length:Int)>20)=true:=decide_eq_true (by omega)
  go_upto_if 48 with(refine no_implicit_lambda%(wpList_end 44 [(44,.bool true),(45,.bool true),(46,undef),(47,undef),(48,.bool true)] rfl (by kernel_rfl) ?_);simp only[setL,List.foldl,List.setIfInBounds_toArray,List.set_cons_zero,List.set_cons_succ])
  go_wp2_with fail
  with_reducible refine(known _).mono ?_
  rintro e w4 ⟨rfl,hb⟩;have HC5:Hid (w3.heap.size≤w4.heap.size):=Lib.hid (hb.size);replace HB:=Lib.hid (below_via HB.out hb);replace HXb:=Lib.hid (HXb.out.below hb);clear hb;go_wp2_with fail
  go_returns
  exact⟨rfl,HB.out⟩
 have t1:decide (L.length>20)=false:=decide_eq_false hl20;have t1':decide ((L.length:Int)>20)=false:=decide_eq_false (by omega);have HLL:Hid (L.length≤20):=Lib.hid (by omega);clear hl20
 by_cases hm0:most<0
 ·have t2:decide (most<0)=true:=decide_eq_true hm0
  go_wp2_with fail
  with_reducible refine(known _).mono ?_
  rintro e w4 ⟨rfl,hb⟩;have HC5:Hid (w3.heap.size≤w4.heap.size):=Lib.hid (hb.size);replace HB:=Lib.hid (below_via HB.out hb);replace HXb:=Lib.hid (HXb.out.below hb);clear hb;go_wp2_with fail
  go_returns
  exact⟨rfl,HB.out⟩
 have t2:decide (most<0)=false:=decide_eq_false hm0;have HMO:Hid (0≤most):=Lib.hid (by omega);clear hm0
 obtain⟨kk,hkk⟩:∃kk,kk=min (Int.toNat at') L.length:=⟨_,rfl⟩
 have HKK:=Lib.hid hkk;have HKL:Hid (kk≤L.length):=Lib.hid (by omega);clear hkk
 go_upto_region 3 with fail
 clear t1 t1' t2
 go_cut [11] from 27 (fun s0 wx=>s0= .int .i64 (kk:Nat)∧wx=w3)
 case first=>
  have c1:IntKind.i64.wrap at' =at':=by have h1:=HAT.out;unfold IntKind.wrap;simp[IntKind.bits,IntKind.signed];omega
  have c2:wrap64 at' =at':=by have h1:=HAT.out;unfold wrap64;omega
  have hlm:L.length≤20:=HLL.out
  by_cases a1:(L.length:Int)<at'
  ·have a1':(L.length:Int)<at':=a1
   go_wp2_with fail
   go_meet
   case rel=>exact⟨val_int (by have h1:=HAT.out;rw[HKK.out];omega),rfl⟩
  ·have a1':¬(L.length:Int)<at':=a1
   go_wp2_with fail
   go_meet
   case rel=>exact⟨val_int (by have h1:=HAT.out;rw[HKK.out];omega),rfl⟩
 obtain⟨wx,rfl⟩:∃W,W=wc:=⟨_,rfl⟩
 obtain⟨rfl,rfl⟩:=hcut
 clear HC1 HC2 HC3 HC4;have HC5:Hid (w.heap.size<wx.heap.size):=Lib.hid (HXb.out.lt)
 obtain⟨A,hA⟩:∃A,A=allL cs B L:=⟨_,rfl⟩
 obtain⟨A1,hA1⟩:∃A,A=allL cs B (L.take kk):=⟨_,rfl⟩
 obtain⟨A2,hA2⟩:∃A,A=allL cs B (L.drop kk):=⟨_,rfl⟩
 have hA12:A=A1++A2:=by rw[hA,hA1,hA2];unfold allL;rw[←List.flatMap_append,List.take_append_drop]
 obtain⟨X,hX⟩:∃X,X=coB B A most:=⟨_,rfl⟩
 obtain⟨P,hP⟩:∃P,P=coB B A1 most:=⟨_,rfl⟩
 have hXP:X=coB P A2 most:=by rw[hX,hP,hA12,co_co]
 obtain⟨dn,hdn⟩:∃d:Int,d=(A.length:Int)-(room B A.length most:Nat):=⟨_,rfl⟩
 obtain⟨d1,hd1⟩:∃d:Int,d=(A1.length:Int)-(room B A1.length most:Nat):=⟨_,rfl⟩
 obtain⟨d2,hd2⟩:∃d:Int,d=(A2.length:Int)-(room P A2.length most:Nat):=⟨_,rfl⟩
 have hds:dn=d1+d2:=by
  have h:=room_co B A1.length A2.length A1 most rfl;rw[←hP,←List.length_append,←hA12] at h
  have hl:A.length=A1.length+A2.length:=by rw[hA12,List.length_append]
  rw[hdn,hd1,hd2];omega
 have HVX:Hid (VB X):=Lib.hid (by rw[hX,hA];exact VB.co HV.out (allL_Q HV.out));have HVP:Hid (VB P):=Lib.hid (by rw[hP,hA1];exact VB.co HV.out (allL_Q HV.out));have hob:B.ob.length≤500:=by have h:=HV.out.num;unfold vNum at h;exact h.2.2.2.2.2.1
 have hal:A.length≤20000:=by have h:=allL_len cs hob L;have:=HLL.out;rw[hA];omega
 have HAL:=Lib.hid hal;have HOB:=Lib.hid hob;have HXQ:Hid (X.qu.length=B.qu.length+room B A.length most):=Lib.hid (by rw[hX];exact co_len B A most);have HRM:Hid (room B A.length most≤A.length):=Lib.hid (room_le _ _ _);have HST:Hid (B.st.length≤200):=Lib.hid (by have h:=HV.out.num;unfold vNum at h;exact h.2.2.2.2.2.2.1);have HQU:Hid (B.qu.length≤200):=Lib.hid (by have h:=HV.out.num;unfold vNum at h;exact h.2.2.2.2.2.2.2);have HXU:Hid (X.qu.length≤200):=Lib.hid (by have h:=HVX.out.num;unfold vNum at h;exact h.2.2.2.2.2.2.2);have HXA:Hid (X.ac=B.ac):=Lib.hid (by rw[hX];rfl);have HF1:Hid (X.qu.take B.qu.length=B.qu):=Lib.hid (by rw[hX];exact co_front);have HF2:Hid ((drB X).st.take B.st.length=B.st):=Lib.hid (by rw[hX];exact drB_front HST.out);have HF3:Hid ((drB X).st.drop B.st.length=(ordL X).take ((drB X).st.length-B.st.length)):=Lib.hid (by rw[hX];exact drB_back HST.out);have HDL:Hid ((drB X).st.length=min 200 (B.st.length+X.qu.length)):=Lib.hid (by rw[drB_len,hX];rfl);have HXE:Hid (X=coB B (allL cs B L) most):=Lib.hid (by rw[hX,hA]);have HDN:Hid (dn=(allL cs B L).length-(room B (allL cs B L).length most:Nat)):=Lib.hid (by rw[hdn,hA]);have HPE:Hid (P=coB B (allL cs B (L.take kk)) most):=Lib.hid (by rw[hP,hA1]);have HD1:Hid (d1=(allL cs B (L.take kk)).length-(room B (allL cs B (L.take kk)).length most:Nat)):=Lib.hid (by rw[hd1,hA1]);have HPL:Hid (allL cs P (L.drop kk)=A2):=Lib.hid (by rw[hP,hA2];rfl);have HQE:Hid (X=coB P (allL cs P (L.drop kk)) most):=Lib.hid (by rw[HPL.out];exact hXP);have HD2:Hid (d2=(allL cs P (L.drop kk)).length-(room P (allL cs P (L.drop kk)).length most:Nat)):=Lib.hid (by rw[HPL.out];exact hd2);have HDS:=Lib.hid hds;have HDD:Hid (dn=(A.length:Int)-(room B A.length most:Nat)):=Lib.hid hdn;have HAE:=Lib.hid hA;clear hA hA1 hA2 hA12 hX hP hXP hdn hd1 hd2 hds hob hal;go_wp2_with (first|(refine wpList_load_bx _ rfl rfl HXb.out (by kernel_rfl) ?_))
 with_reducible refine(collectF v cs s B ha L.length hcp L most _ X dn rfl HXE.out HDN.out HMO.out (HR.out.below HB.out) HV.out (HCS.out.below HB.out) HL.out (HHS.out.below HB.out) (Nat.le_trans HLL.out (by omega)) HID.out).mono ?_
 rintro e w4 ⟨sx,rfl,ho,hb⟩;have HC6:Hid (wx.heap.size≤w4.heap.size):=Lib.hid (hb.size);replace HB:=Lib.hid (below_via HB.out hb);replace HXb:=Lib.hid (HXb.out.below hb);have HOx:=Lib.hid ho;clear ho hb;go_wp2_with (first|(refine wpList_store_bh rfl _ _ rfl rfl rfl (heap_alloc_new _ _) rfl ?_))
 intro w5 hw0;have hbx:=boxed hw0.out
 obtain⟨nx,hn⟩:∃n,n=w4.heap.size:=⟨_,rfl⟩
 rw[←hn] at hbx ⊢
 have hb:=hbx.1;rw[hn] at hb
 clear hw0;replace HB:=Lib.hid (below_via HB.out hb);replace HXb:=Lib.hid (HXb.out.below hb);replace HOx:=Lib.hid (HOx.out.below hb);have HXx:Hid (Bx w5 nx sx (X)):=Lib.hid hbx.2;have HC7:Hid (w4.heap.size≤nx∧nx<w5.heap.size):=Lib.hid (⟨by omega,hbx.2.lt⟩);clear hbx hn hb;have hhk:Rw hpc 3 w (.slice ha kk hcp) (L.take kk):=HHS.out.take HKL.out hcp HCAP.out.2;have HHK:=Lib.hid hhk;have j1:(0:Int)≤(kk:Int):=by omega
 have j2:(kk:Int)≤(L.length:Int):=by have:=HKL.out;omega
 have j3:kk≤L.length:=HKL.out;have j4:kk≤hcp:=Nat.le_trans HKL.out HCAP.out.1;have j5:(kk:Int)≤(hcp:Int):=by omega
 clear hhk
 go_upto_region 5 with fail
 go_cut [15,16,17] from 27 (fun s2 s3 s4 wx=>∃nc sc,s2= .pointer (some ⟨nc,0,none⟩)∧s3= .int .i64 d1∧s4= .int .i64 0∧Below w5.heap.size w5 wx∧Bx wx nc sc P∧BdR wx sc P)
 case first=>
  as_aux_lemma=>
   refine rg7_5 (w0:=w5) (B:=w5.heap.size) (n:=w5.heap.size) (L:=[]) (by kernel_rfl) rfl (by kernel_rfl) (.t ⟨by go_grown,by go_size,(by simp[go_sem]<;>omega)⟩) (fun w61 K_w61 E_w61 F_w61=> ?_);have _ne:Nonempty (KX (w5.heap.size) w5 (w5.heap.size) [] (fun _=>True)):=⟨⟨_,K_w61,E_w61⟩⟩;have qb0:∀W',(∃s':KX (w5.heap.size) w5 (w5.heap.size) [] (fun _=>True),W' =s'.val)→Bx W' (w.heap.size) s B:=by rintro _ ⟨s2,rfl⟩;exact HXb.out.below s2.kept.below
   repeat (first|(go_big_quiet_want;(apply quiet_load_bx _ rfl rfl qb0);(focus(simp[go_sem];rfl));go_big_quiet_on)|go_big_quiet_step (fail))
   refine wpQuiet_nil ?_
   repeat (first|(go_big_quiet_want;(apply quiet_load_bx _ rfl rfl qb0);(focus(simp[go_sem];rfl));go_big_quiet_on)|go_big_quiet_step (fail))
   refine wpQuiet_nil ?_;have KH_w61:=Lib.hid K_w61;have hw_w61:=K_w61.below;have hz_w61:=K_w61.size;clear K_w61;clear E_w61 F_w61
   refine⟨fun K hK0=> ?_,fun K hK0=> ?_,trivial⟩
   ·skip
    have hK:=Lib.hid hK0;clear hK0;go_wp2_with fail
    with_reducible refine(collectF v cs s B ha kk hcp (L.take kk) most _ P d1 (by rw[List.length_take];exact Nat.min_eq_left HKL.out) HPE.out HD1.out HMO.out ((HR.out.below HB.out).below KH_w61.out.below) HV.out ((HCS.out.below HB.out).below KH_w61.out.below) HL.out ((HHK.out.below HB.out).below KH_w61.out.below) (by rw[List.length_take];have:=HLL.out;omega) (fun x hx=>HID.out x (List.mem_of_mem_take hx))).mono ?_
    rintro e v6 ⟨sc,rfl,ho,hb⟩;have HW:Hid (Below w5.heap.size w5 v6):=Lib.hid (below_via KH_w61.out.below hb);have HC:=Lib.hid ho;clear ho hb;go_wp2_with fail
    first|refine⟨rfl,hK.out _ _ ?_⟩|refine hK.out _ _ ?_
    clear hK K
    repeat (first|(go_big_quiet_want;(apply quiet_load_bx _ rfl rfl qb0);(focus(simp[go_sem];rfl));go_big_quiet_on)|go_big_quiet_step (fail))
    refine wpQuiet_nil ?_
    refine⟨fun K hK0=> ?_,trivial⟩
    have hK:=Lib.hid hK0;clear hK0;go_wp2_with fail
    obtain⟨v6a,hw7⟩:∃W,W=v6.alloc (.cells #[.slice none 0 0,.int .i64 0,.int .i64 0,.int .i64 0,.int .i64 0,.int .i64 0,.slice none 0 0,.slice none 0 0,.slice none 0 0,.slice none 0 0,.bool false,.bool false,.bool false,.int .i64 0,.int .i64 0,.int .i64 0,.int .i64 0,.int .i64 0,.int .i64 0,.int .i64 0,.slice none 0 0,.slice none 0 0,.slice none 0 0,.slice none 0 0,.bool false,.bool false,.bool false,.int .i64 0,.int .i64 0,.slice none 0 0,.slice none 0 0,.slice none 0 0,.slice none 0 0,.int .i64 0,.int .i64 0,.int .i64 0,.int .i64 0,.int .i64 0] 34):=⟨_,rfl⟩
    rw[←hw7];have hb:Below v6.heap.size v6 v6a:=by rw[hw7];exact(Below.refl _ _).alloc (Nat.le_refl _) _
    obtain⟨nc,hnc⟩:∃n,n=v6.heap.size:=⟨_,rfl⟩
    rw[←hnc];have hnl:w5.heap.size≤nc:=by have h1:=HW.out.size;omega
    have HNL:=Lib.hid hnl;replace HW:Hid (Below w5.heap.size w5 v6a):=Lib.hid (below_via HW.out hb);replace HC:=Lib.hid (HC.out.below hb);have HN2:Hid (Bx v6a nc nilS zeroB):=Lib.hid (by rw[hw7,hnc];exact Ro.new _ _ _);clear hw7 hb hnc hnl
    first|refine⟨rfl,?u,hK.out _ _ ?_⟩|refine⟨?u,hK.out _ _ ?_⟩
    case u=>exact⟨⟨_,(⟨HW.out,HW.out.size,by simp⟩:Kept w5.heap.size w5 w5.heap.size [] v6a),trivial⟩,rfl⟩
    clear hK K
    refine⟨fun K hK0=> ?_,trivial⟩
    have hK:=Lib.hid hK0;clear hK0;go_wp2_with (refine wpList_store_bh (s:=sc) (B:=P) rfl _ _ rfl rfl rfl HN2.out rfl ?_)
    intro v9 hw9;have hon:Onl [nc] v6a v9:=by rw[hw9.out];exact Onl.setRow (Onl.refl _ _) (.inl (by simp)) _
    have HX9:Hid (Bx v9 nc sc P):=Lib.hid (by rw[hw9.out];exact Bx.row HN2.out _ _);have HC9:=Lib.hid (HC.out.onlB hon HN2.out).rd;have HW9:Hid (Below w5.heap.size w5 v9):=Lib.hid (belowOnl HW.out hon (by simp only[List.mem_singleton,forall_eq];exact HNL.out) HW.out.size);clear hw9 hon
    first|refine⟨rfl,hK.out _ _ ?_⟩|refine hK.out _ _ ?_
    clear hK K
    repeat (first|(go_big_quiet_want;(apply quiet_load_bx _ rfl rfl qb0);(focus(simp[go_sem];rfl));go_big_quiet_on)|go_big_quiet_step (fail))
    refine wpQuiet_nil ?_;clear _ne qb0;go_wp2_with fail
    go_meet
    case rel=>exact⟨_,_,rfl,rfl,rfl,HW9.out,HX9.out,HC9.out⟩
   ·skip
    have hK:=Lib.hid hK0;clear hK0;go_wp2_with fail
    obtain⟨va,hw7⟩:∃W,W=w61.alloc (.cells #[.slice none 0 0,.int .i64 0,.int .i64 0,.int .i64 0,.int .i64 0,.int .i64 0,.slice none 0 0,.slice none 0 0,.slice none 0 0,.slice none 0 0,.bool false,.bool false,.bool false,.int .i64 0,.int .i64 0,.int .i64 0,.int .i64 0,.int .i64 0,.int .i64 0,.int .i64 0,.slice none 0 0,.slice none 0 0,.slice none 0 0,.slice none 0 0,.bool false,.bool false,.bool false,.int .i64 0,.int .i64 0,.slice none 0 0,.slice none 0 0,.slice none 0 0,.slice none 0 0,.int .i64 0,.int .i64 0,.int .i64 0,.int .i64 0,.int .i64 0] 34):=⟨_,rfl⟩
    rw[←hw7];have hb:Below w61.heap.size w61 va:=by rw[hw7];exact(Below.refl _ _).alloc (Nat.le_refl _) _
    obtain⟨nc,hnc⟩:∃n,n=w61.heap.size:=⟨_,rfl⟩
    rw[←hnc];have hnl:w5.heap.size≤nc:=by have h1:=KH_w61.out.below.size;omega
    have HNL:=Lib.hid hnl;have HW:Hid (Below w5.heap.size w5 va):=Lib.hid (below_via KH_w61.out.below hb);have HN2:Hid (Bx va nc nilS zeroB):=Lib.hid (by rw[hw7,hnc];exact Ro.new _ _ _);clear hw7 hb hnc hnl
    first|refine⟨rfl,?u,hK.out _ _ ?_⟩|refine⟨?u,hK.out _ _ ?_⟩
    case u=>exact⟨⟨_,(⟨HW.out,HW.out.size,by simp⟩:Kept w5.heap.size w5 w5.heap.size [] va),trivial⟩,rfl⟩
    clear hK K
    refine⟨fun K hK0=> ?_,trivial⟩
    have hK:=Lib.hid hK0;clear hK0;go_wp2_with fail
    with_reducible refine(collectF v cs s B ha kk hcp (L.take kk) most _ P d1 (by rw[List.length_take];exact Nat.min_eq_left HKL.out) HPE.out HD1.out HMO.out ((HR.out.below HB.out).below HW.out) HV.out ((HCS.out.below HB.out).below HW.out) HL.out ((HHK.out.below HB.out).below HW.out) (by rw[List.length_take];have:=HLL.out;omega) (fun x hx=>HID.out x (List.mem_of_mem_take hx))).mono ?_
    rintro e va6 ⟨sc,rfl,ho,hb⟩;replace HW:Hid (Below w5.heap.size w5 va6):=Lib.hid (below_via HW.out hb);replace HN2:=Lib.hid (HN2.out.below hb);have HC:=Lib.hid ho;clear ho hb;go_wp2_with fail
    first|refine⟨rfl,hK.out _ _ ?_⟩|refine hK.out _ _ ?_
    clear hK K
    repeat (first|(go_big_quiet_want;(apply quiet_load_bx _ rfl rfl qb0);(focus(simp[go_sem];rfl));go_big_quiet_on)|go_big_quiet_step (fail))
    refine wpQuiet_nil ?_
    refine⟨fun K hK0=> ?_,trivial⟩
    have hK:=Lib.hid hK0;clear hK0;go_wp2_with (refine wpList_store_bh (s:=sc) (B:=P) rfl _ _ rfl rfl rfl HN2.out rfl ?_)
    intro v9 hw9;have hon:Onl [nc] va6 v9:=by rw[hw9.out];exact Onl.setRow (Onl.refl _ _) (.inl (by simp)) _
    have HX9:Hid (Bx v9 nc sc P):=Lib.hid (by rw[hw9.out];exact Bx.row HN2.out _ _);have HC9:=Lib.hid (HC.out.onlB hon HN2.out).rd;have HW9:Hid (Below w5.heap.size w5 v9):=Lib.hid (belowOnl HW.out hon (by simp only[List.mem_singleton,forall_eq];exact HNL.out) HW.out.size);clear hw9 hon
    first|refine⟨rfl,hK.out _ _ ?_⟩|refine hK.out _ _ ?_
    clear hK K
    repeat (first|(go_big_quiet_want;(apply quiet_load_bx _ rfl rfl qb0);(focus(simp[go_sem];rfl));go_big_quiet_on)|go_big_quiet_step (fail))
    refine wpQuiet_nil ?_;clear _ne qb0;go_wp2_with fail
    go_meet
    case rel=>exact⟨_,_,rfl,rfl,rfl,HW9.out,HX9.out,HC9.out⟩
 obtain⟨wp,rfl⟩:∃W,W=wc:=⟨_,rfl⟩
 obtain⟨np,sp,rfl,rfl,rfl,hb,hx,hr⟩:=hcut
 have HC8:Hid (w5.heap.size≤wp.heap.size):=Lib.hid (hb.size);replace HB:=Lib.hid (below_via HB.out hb);replace HXb:=Lib.hid (HXb.out.below hb);replace HXx:=Lib.hid (HXx.out.below hb);replace HOx:=Lib.hid (HOx.out.below hb);have HXp:=Lib.hid hx;have HRp:=Lib.hid hr;clear hb hx hr
 go_upto_region 8 with fail
 have HHD:=Lib.hid (haps_drop HHS.out HKL.out HCAP.out);have HLE:Hid ((L.drop kk).length=L.length-kk):=Lib.hid List.length_drop
 go_cut [18,19,20] from 27 (fun s2 s3 s4 wx=>∃nc sc,s2= .pointer (some ⟨nc,0,none⟩)∧s3= .int .i64 d2∧s4= .int .i64 0∧Below wp.heap.size wp wx∧Bx wx nc sc X∧BdR wx sc X)
 case first=>
  rcases HHD.out with⟨rfl,hdr⟩|⟨ad,rfl,hd1,hd2⟩
  all_goals (first|(have HDR:=Lib.hid hdr;clear hdr HHD)|(clear HHD;by_cases hq7:hcp=kk))
  all_goals (first|(have HDR:=Lib.hid (hd1 hq7);clear hd1 hd2;obtain rfl:kk=hcp:=hq7.symm)|(have HDR:=Lib.hid hd2;clear hd1 hd2)|skip)
  all_goals
   as_aux_lemma=>
    refine rg7_5 (w0:=wp) (B:=wp.heap.size) (n:=wp.heap.size) (L:=[]) (by kernel_rfl) rfl (by kernel_rfl) (.t ⟨by go_grown,by go_size,(by simp[go_sem]<;>omega)⟩) (fun w61 K_w61 E_w61 F_w61=> ?_);have _ne:Nonempty (KX (wp.heap.size) wp (wp.heap.size) [] (fun _=>True)):=⟨⟨_,K_w61,E_w61⟩⟩;have qb0:∀W',(∃s':KX (wp.heap.size) wp (wp.heap.size) [] (fun _=>True),W' =s'.val)→Bx W' (np) sp P:=by rintro _ ⟨s2,rfl⟩;exact HXp.out.below s2.kept.below
    repeat (first|(go_big_quiet_want;(apply quiet_load_bx _ rfl rfl qb0);(focus(simp[go_sem];rfl));go_big_quiet_on)|go_big_quiet_step (fail))
    refine wpQuiet_nil ?_
    repeat (first|(go_big_quiet_want;(apply quiet_load_bx _ rfl rfl qb0);(focus(simp[go_sem];rfl));go_big_quiet_on)|go_big_quiet_step (fail))
    refine wpQuiet_nil ?_;have KH_w61:=Lib.hid K_w61;have hw_w61:=K_w61.below;have hz_w61:=K_w61.size;clear K_w61;clear E_w61 F_w61
    refine⟨fun K hK0=> ?_,fun K hK0=> ?_,trivial⟩
    ·skip
     have hK:=Lib.hid hK0;clear hK0;go_wp2_with fail
     with_reducible refine(collectF v cs sp P _ _ _ (L.drop kk) most _ X d2 HLE.out HQE.out HD2.out HMO.out (HRp.out.below KH_w61.out.below) HVP.out ((HCS.out.below HB.out).below KH_w61.out.below) HL.out ((HDR.out.below HB.out).below KH_w61.out.below) (by have h1:=HLL.out;rw[List.length_drop];omega) (fun x hx=>HID.out x (List.mem_of_mem_drop hx))).mono ?_
     rintro e v6 ⟨sc,rfl,ho,hb⟩;have HW:Hid (Below wp.heap.size wp v6):=Lib.hid (below_via KH_w61.out.below hb);have HC:=Lib.hid ho;clear ho hb;go_wp2_with fail
     first|refine⟨rfl,hK.out _ _ ?_⟩|refine hK.out _ _ ?_
     clear hK K
     repeat (first|(go_big_quiet_want;(apply quiet_load_bx _ rfl rfl qb0);(focus(simp[go_sem];rfl));go_big_quiet_on)|go_big_quiet_step (fail))
     refine wpQuiet_nil ?_
     refine⟨fun K hK0=> ?_,trivial⟩
     have hK:=Lib.hid hK0;clear hK0;go_wp2_with fail
     obtain⟨v6a,hw7⟩:∃W,W=v6.alloc (.cells #[.slice none 0 0,.int .i64 0,.int .i64 0,.int .i64 0,.int .i64 0,.int .i64 0,.slice none 0 0,.slice none 0 0,.slice none 0 0,.slice none 0 0,.bool false,.bool false,.bool false,.int .i64 0,.int .i64 0,.int .i64 0,.int .i64 0,.int .i64 0,.int .i64 0,.int .i64 0,.slice none 0 0,.slice none 0 0,.slice none 0 0,.slice none 0 0,.bool false,.bool false,.bool false,.int .i64 0,.int .i64 0,.slice none 0 0,.slice none 0 0,.slice none 0 0,.slice none 0 0,.int .i64 0,.int .i64 0,.int .i64 0,.int .i64 0,.int .i64 0] 34):=⟨_,rfl⟩
     rw[←hw7];have hb:Below v6.heap.size v6 v6a:=by rw[hw7];exact(Below.refl _ _).alloc (Nat.le_refl _) _
     obtain⟨nc,hnc⟩:∃n,n=v6.heap.size:=⟨_,rfl⟩
     rw[←hnc];have hnl:wp.heap.size≤nc:=by have h1:=HW.out.size;omega
     have HNL:=Lib.hid hnl;replace HW:Hid (Below wp.heap.size wp v6a):=Lib.hid (below_via HW.out hb);replace HC:=Lib.hid (HC.out.below hb);have HN2:Hid (Bx v6a nc nilS zeroB):=Lib.hid (by rw[hw7,hnc];exact Ro.new _ _ _);clear hw7 hb hnc hnl
     first|refine⟨rfl,?u,hK.out _ _ ?_⟩|refine⟨?u,hK.out _ _ ?_⟩
     case u=>exact⟨⟨_,(⟨HW.out,HW.out.size,by simp⟩:Kept wp.heap.size wp wp.heap.size [] v6a),trivial⟩,rfl⟩
     clear hK K
     refine⟨fun K hK0=> ?_,trivial⟩
     have hK:=Lib.hid hK0;clear hK0;go_wp2_with (refine wpList_store_bh (s:=sc) (B:=X) rfl _ _ rfl rfl rfl HN2.out rfl ?_)
     intro v9 hw9;have hon:Onl [nc] v6a v9:=by rw[hw9.out];exact Onl.setRow (Onl.refl _ _) (.inl (by simp)) _
     have HX9:Hid (Bx v9 nc sc X):=Lib.hid (by rw[hw9.out];exact Bx.row HN2.out _ _);have HC9:=Lib.hid (HC.out.onlB hon HN2.out).rd;have HW9:Hid (Below wp.heap.size wp v9):=Lib.hid (belowOnl HW.out hon (by simp only[List.mem_singleton,forall_eq];exact HNL.out) HW.out.size);clear hw9 hon
     first|refine⟨rfl,hK.out _ _ ?_⟩|refine hK.out _ _ ?_
     clear hK K
     repeat (first|(go_big_quiet_want;(apply quiet_load_bx _ rfl rfl qb0);(focus(simp[go_sem];rfl));go_big_quiet_on)|go_big_quiet_step (fail))
     refine wpQuiet_nil ?_;clear _ne qb0;go_wp2_with fail
     go_meet
     case rel=>exact⟨_,_,rfl,rfl,rfl,HW9.out,HX9.out,HC9.out⟩
    ·skip
     have hK:=Lib.hid hK0;clear hK0;go_wp2_with fail
     obtain⟨va,hw7⟩:∃W,W=w61.alloc (.cells #[.slice none 0 0,.int .i64 0,.int .i64 0,.int .i64 0,.int .i64 0,.int .i64 0,.slice none 0 0,.slice none 0 0,.slice none 0 0,.slice none 0 0,.bool false,.bool false,.bool false,.int .i64 0,.int .i64 0,.int .i64 0,.int .i64 0,.int .i64 0,.int .i64 0,.int .i64 0,.slice none 0 0,.slice none 0 0,.slice none 0 0,.slice none 0 0,.bool false,.bool false,.bool false,.int .i64 0,.int .i64 0,.slice none 0 0,.slice none 0 0,.slice none 0 0,.slice none 0 0,.int .i64 0,.int .i64 0,.int .i64 0,.int .i64 0,.int .i64 0] 34):=⟨_,rfl⟩
     rw[←hw7];have hb:Below w61.heap.size w61 va:=by rw[hw7];exact(Below.refl _ _).alloc (Nat.le_refl _) _
     obtain⟨nc,hnc⟩:∃n,n=w61.heap.size:=⟨_,rfl⟩
     rw[←hnc];have hnl:wp.heap.size≤nc:=by have h1:=KH_w61.out.below.size;omega
     have HNL:=Lib.hid hnl;have HW:Hid (Below wp.heap.size wp va):=Lib.hid (below_via KH_w61.out.below hb);have HN2:Hid (Bx va nc nilS zeroB):=Lib.hid (by rw[hw7,hnc];exact Ro.new _ _ _);clear hw7 hb hnc hnl
     first|refine⟨rfl,?u,hK.out _ _ ?_⟩|refine⟨?u,hK.out _ _ ?_⟩
     case u=>exact⟨⟨_,(⟨HW.out,HW.out.size,by simp⟩:Kept wp.heap.size wp wp.heap.size [] va),trivial⟩,rfl⟩
     clear hK K
     refine⟨fun K hK0=> ?_,trivial⟩
     have hK:=Lib.hid hK0;clear hK0;go_wp2_with fail
     with_reducible refine(collectF v cs sp P _ _ _ (L.drop kk) most _ X d2 HLE.out HQE.out HD2.out HMO.out (HRp.out.below HW.out) HVP.out ((HCS.out.below HB.out).below HW.out) HL.out ((HDR.out.below HB.out).below HW.out) (by have h1:=HLL.out;rw[List.length_drop];omega) (fun x hx=>HID.out x (List.mem_of_mem_drop hx))).mono ?_
     rintro e va6 ⟨sc,rfl,ho,hb⟩;replace HW:Hid (Below wp.heap.size wp va6):=Lib.hid (below_via HW.out hb);replace HN2:=Lib.hid (HN2.out.below hb);have HC:=Lib.hid ho;clear ho hb;go_wp2_with fail
     first|refine⟨rfl,hK.out _ _ ?_⟩|refine hK.out _ _ ?_
     clear hK K
     repeat (first|(go_big_quiet_want;(apply quiet_load_bx _ rfl rfl qb0);(focus(simp[go_sem];rfl));go_big_quiet_on)|go_big_quiet_step (fail))
     refine wpQuiet_nil ?_
     refine⟨fun K hK0=> ?_,trivial⟩
     have hK:=Lib.hid hK0;clear hK0;go_wp2_with (refine wpList_store_bh (s:=sc) (B:=X) rfl _ _ rfl rfl rfl HN2.out rfl ?_)
     intro v9 hw9;have hon:Onl [nc] va6 v9:=by rw[hw9.out];exact Onl.setRow (Onl.refl _ _) (.inl (by simp)) _
     have HX9:Hid (Bx v9 nc sc X):=Lib.hid (by rw[hw9.out];exact Bx.row HN2.out _ _);have HC9:=Lib.hid (HC.out.onlB hon HN2.out).rd;have HW9:Hid (Below wp.heap.size wp v9):=Lib.hid (belowOnl HW.out hon (by simp only[List.mem_singleton,forall_eq];exact HNL.out) HW.out.size);clear hw9 hon
     first|refine⟨rfl,hK.out _ _ ?_⟩|refine hK.out _ _ ?_
     clear hK K
     repeat (first|(go_big_quiet_want;(apply quiet_load_bx _ rfl rfl qb0);(focus(simp[go_sem];rfl));go_big_quiet_on)|go_big_quiet_step (fail))
     refine wpQuiet_nil ?_;clear _ne qb0;go_wp2_with fail
     go_meet
     case rel=>exact⟨_,_,rfl,rfl,rfl,HW9.out,HX9.out,HC9.out⟩

 obtain⟨wq,rfl⟩:∃W,W=wc:=⟨_,rfl⟩
 obtain⟨nq,sq,rfl,rfl,rfl,hb,hx,hr⟩:=hcut
 clear j1 j2 j3 j4 j5;have HC9:Hid (wp.heap.size≤wq.heap.size):=Lib.hid (hb.size);replace HB:=Lib.hid (below_via HB.out hb);replace HXb:=Lib.hid (HXb.out.below hb);replace HXx:=Lib.hid (HXx.out.below hb);replace HXp:=Lib.hid (HXp.out.below hb);replace HOx:=Lib.hid (HOx.out.below hb);replace HRp:=Lib.hid (HRp.out.below hb);have HXq:=Lib.hid hx;have HRq:=Lib.hid hr;clear hb hx hr
 as_aux_lemma=>
  obtain⟨_,hb0,hcp0,hhv,hhf⟩:=HHS.out.form
  simp only[Value.slice.injEq] at hhv
  obtain⟨rfl,hq9,rfl⟩:=hhv
  clear hq9;have HHF:=Lib.hid hhf;clear hhf;have hll:L.length≤20:=HLL.out
  go_upto_block 0 with fail
  go_cut [21,22] from 27 (fun av iv wx=>av= .int .i64 (A.length:Nat)∧Below wq.heap.size wq wx)
  case first=>
   as_aux_lemma=>
    go_wp2_with fail
    go_loopw [21,22] (fun av i wr=>HoL wq cs B L av i wr) (fun _ i _=>L.length-(intOf i).toNat)
    case atStart=>exact⟨0,0,by omega,rfl,rfl,rfl,Below.refl _ _⟩
    case round=>
     obtain⟨m,zz,hm,rfl,hz,rfl,hb⟩:=hrel
     by_cases hml:m<L.length
     case pos=>
      have t1:decide ((m:Int)<(L.length:Int))=true:=decide_eq_true (by omega);have t1':decide (m<L.length)=true:=decide_eq_true hml
      obtain⟨x,hx⟩:∃x,L[m]? =some x:=⟨_,List.getElem?_eq_getElem hml⟩
      obtain⟨b,off,rfl,hlb,hc⟩:=HHF.out (by omega)
      have hrg:wr.rangeAt b (off+m*3) (hpc x):=fun j u hu=>by rw[Nat.add_assoc];exact((below_via HB.out hb).cell (p:=⟨b,_,none⟩) hlb).trans (hc m x hx j u hu)
      have d0:wr.cell? ⟨b,off+m*3,none⟩=some (.int .i64 x.wh):=hrg 0 _ rfl;have d1:wr.cell? ⟨b,off+m*3+1,none⟩=some (.int .i64 x.id):=hrg 1 _ rfl;have d2:wr.cell? ⟨b,off+m*3+2,none⟩=some (.int .i64 x.pl):=hrg 2 _ rfl;replace hlb:b<wr.heap.size:=Nat.lt_of_lt_of_le hlb (below_via HB.out hb).size;have HXX:=Lib.hid hx;have HXw:=Lib.hid (HXb.out.below hb);have HBM:=Lib.hid hb;have i1:(0:Int)≤(m:Int):=by omega
      have i2:(m:Int)<(L.length:Int):=by omega
      obtain⟨hn,hhn⟩:∃n,n=(hapK cs B x.wh x.id x.pl B.ob).length:=⟨_,rfl⟩
      have HNX:Hid ((allL cs B (L.take (m+1))).length=(allL cs B (L.take m)).length+hn):=Lib.hid (by rw[allL_take hx,List.length_append,hhn]);have hn1:hn≤1000:=by have h:=hapK_len cs B x.wh x.id x.pl B.ob;have:=HOB.out;omega
      have hz1:(allL cs B (L.take m)).length≤20000:=by have h:=allL_len cs HOB.out (L.take m);rw[List.length_take] at h;omega
      obtain⟨zn,hzn⟩:∃n,n=(allL cs B (L.take m)).length:=⟨_,rfl⟩
      rw[←hzn] at hz hz1 HNX
      subst hz;clear hc hrg hx hb hzn
      go_upto_region 13 with fail
      clear t1 t1';refine rg7_13 (w0:=wr) (B:=wr.heap.size) (n:=wr.heap.size) (L:=[]) (by kernel_rfl) rfl (by kernel_rfl) (.t ⟨by go_grown,by go_size,(by simp[go_sem]<;>omega)⟩) (fun w91 K_w91 E_w91 F_w91=> ?_);have _ne:Nonempty (KX (wr.heap.size) wr (wr.heap.size) [] (fun _=>True)):=⟨⟨_,K_w91,E_w91⟩⟩;have qb0:∀W',(∃s':KX (wr.heap.size) wr (wr.heap.size) [] (fun _=>True),W' =s'.val)→Bx W' (w.heap.size) s (B):=by rintro _ ⟨s',rfl⟩;exact HXw.out.below s'.kept.below
      repeat (first|(go_big_quiet_want;(first|apply quiet_load_bx _ rfl rfl qb0);(focus(simp[go_sem];rfl));go_big_quiet_on)|go_big_quiet_step (fail))
      refine wpQuiet_nil ?_;have rh0:=rck _ne d0 hlb;have rh1:=rck _ne d1 hlb;have rh2:=rck _ne d2 hlb
      repeat (first|(go_big_quiet_want;(first|apply quiet_load_bx _ rfl rfl qb0);(focus(simp[go_sem];rfl));go_big_quiet_on)|go_big_quiet_step (fail))
      refine wpQuiet_nil ?_;have KH_w91:=Lib.hid K_w91;have hw_w91:=K_w91.below;have hz_w91:=K_w91.size;clear K_w91;clear E_w91 F_w91
      refine⟨fun K hK0=> ?_,trivial⟩
      have hK:=Lib.hid hK0;clear hK0;go_wp2_with fail
      with_reducible refine(hofx v cs s B x _ (((HCS.out.below HB.out).below HBM.out).below KH_w91.out.below) HL.out (((HR.out.below HB.out).below HBM.out).below KH_w91.out.below) (HID.out x (List.mem_of_getElem? HXX.out)) HV.out).mono ?_
      rintro e w5 ⟨xa,xc,rfl,hm,hb⟩;have HBY:Hid (Below wr.heap.size wr w5):=Lib.hid (below_via KH_w91.out.below hb);have hx9:(hapK cs B x.wh x.id x.pl B.ob).length=hn:=hhn.symm;rw[hx9];clear hm hb hx9;go_wp2_with fail
      first|refine⟨rfl,hK.out _ _ ?_⟩|refine hK.out _ _ ?_
      clear hK K
      repeat (first|(go_big_quiet_want;(first|apply quiet_load_bx _ rfl rfl qb0);(focus(simp[go_sem];rfl));go_big_quiet_on)|go_big_quiet_step (fail))
      refine wpQuiet_nil ?_;clear rh0 rh1 rh2;clear _ne qb0;clear d0 d1 d2 hlb i1 i2;go_wp2_with fail
      go_roundw
      case rel=>exact⟨m+1,_,by omega,rfl,by rw[HNX.out];first|omega|(unfold wrap64;omega),by go_num,below_via HBM.out HBY.out⟩
      case measure=>simp[intOf];omega
     case neg=>
     obtain rfl:m=L.length:=by omega
     have t1:decide ((L.length:Int)<(L.length:Int))=false:=decide_eq_false (by omega);have t1':decide (L.length<L.length)=false:=decide_eq_false (by omega);rw[List.take_length,←HAE.out] at hz
     subst hz;go_wp2_with fail
     go_meet
     case rel=>exact⟨rfl,hb⟩
  obtain⟨wr,rfl⟩:∃W,W=wc:=⟨_,rfl⟩
  obtain⟨rfl,hb⟩:=hcut
  clear hll
  as_aux_lemma=>
   have HCQ:Hid (wq.heap.size≤wr.heap.size):=Lib.hid hb.size;replace HB:=Lib.hid (below_via HB.out hb);replace HXb:=Lib.hid (HXb.out.below hb);replace HXx:=Lib.hid (HXx.out.below hb);replace HXp:=Lib.hid (HXp.out.below hb);replace HXq:=Lib.hid (HXq.out.below hb);replace HOx:=Lib.hid (HOx.out.below hb);replace HRp:=Lib.hid (HRp.out.below hb);replace HRq:=Lib.hid (HRq.out.below hb);clear hb HHF
   obtain⟨xa,xc,hxv,hxc⟩:=HOx.out.qu.cap
   obtain⟨ba,bc,hbv⟩:∃a c,s.qu.v= .slice a B.qu.length c:=by
    obtain⟨l,h1,h2,_⟩:=HR.out.qu
    obtain⟨_,a,c,h3,_⟩:=h2.form
    exact⟨a,c,by rw[h3,←h1,List.length_map]⟩
   obtain⟨xl,hxl⟩:∃n,n=X.qu.length:=⟨_,rfl⟩
   obtain⟨bl,hbl⟩:∃n,n=B.qu.length:=⟨_,rfl⟩
   obtain⟨al,hal⟩:∃n,n=A.length:=⟨_,rfl⟩
   rw[←hxl] at hxv hxc
   rw[←hbl] at hbv
   rw[←hal];have HXV:=Lib.hid hxv;have HBV:=Lib.hid hbv;have HXC:=Lib.hid hxc;have HXLE:=Lib.hid hxl;have HBLE:=Lib.hid hbl;have HALE:=Lib.hid hal;have hq:=HXQ.out;have hr1:=HRM.out;have hal2:=HAL.out;have hdd:=HDD.out;have hds:=HDS.out;have hxu:=HXU.out;rw[←hxl,←hbl] at hq
   rw[←hal] at hq hr1 hdd hal2
   rw[←hxl] at hxu
   have hbx:bl≤xl:=by omega
   have x30:wr.cell? ⟨nx,30,none⟩=some (.slice xa xl xc):=by rw[←HXV.out];exact HXx.out.cell 30
   have b30:wr.cell? ⟨w.heap.size,30,none⟩=some (.slice ba bl bc):=by rw[←HBV.out];exact HXb.out.cell 30
   have lx:nx<wr.heap.size:=HXx.out.lt;have lb:w.heap.size<wr.heap.size:=HXb.out.lt;have e1:decide ((xl:Int)<(bl:Int))=false:=decide_eq_false (by omega);have e1':decide (xl<bl)=false:=decide_eq_false (by omega);have e2:wrap64 (d1+d2)=dn:=by unfold wrap64;omega
   have e2':(dn !=dn)=false:=by simp
   have e2'':(dn !=d1+d2)=false:=by rw[hds];simp
   have e3:wrap64 ((xl:Int)-(bl:Int))=(xl:Int)-(bl:Int):=by unfold wrap64;omega
   have e4:wrap64 ((xl:Int)-(bl:Int)+dn)=(al:Int):=by unfold wrap64;omega
   have e5:((al:Int) !=(al:Int))=false:=by simp
   have e5':(al !=al)=false:=by simp
   have j1:(0:Int)≤(bl:Int):=by omega
   have j2:(bl:Int)≤(xl:Int):=by omega
   have j4:bl≤xc:=by omega
   have j5:(bl:Int)≤(xc:Int):=by omega
   have HHQ1:Hid (ItR wr (.slice xa bl xc) B.qu):=Lib.hid (by
    have h1:ItR wr (.slice xa xl xc) X.qu:=by rw[←HXV.out];exact HOx.out.rd.qu
    have h2:=h1.take hbx HXC.out.2;rw[HBLE.out,HF1.out] at h2
    rw[HBLE.out];exact h2)
   have HHQ2:Hid (ItR wr (.slice ba bl bc) B.qu):=Lib.hid (by rw[←HBV.out];exact(HR.out.below HB.out).qu);clear hxv hxc hbv hxl hbl hal hq hr1 hdd hds hal2
   go_upto_region 15 with fail
   go_cut [158] from 27 (fun s0 wx=>s0= .bool false∧Below wr.heap.size wr wx)
   case first=>
    as_aux_lemma=>
     refine rg7_15 (w0:=wr) (B:=wr.heap.size) (n:=wr.heap.size) (L:=[]) (by kernel_rfl) rfl (by kernel_rfl) (.t ⟨by go_grown,by go_size,(by simp[go_sem]<;>omega)⟩) (fun w91 K_w91 E_w91 F_w91=> ?_);have _ne:Nonempty (KX (wr.heap.size) wr (wr.heap.size) [] (fun _=>True)):=⟨⟨_,K_w91,E_w91⟩⟩;have qb0:∀W',(∃s':KX (wr.heap.size) wr (wr.heap.size) [] (fun _=>True),W' =s'.val)→Bx W' (nx) sx (X):=by rintro _ ⟨s',rfl⟩;exact HXx.out.below s'.kept.below
     have qb1:∀W',(∃s':KX (wr.heap.size) wr (wr.heap.size) [] (fun _=>True),W' =s'.val)→Bx W' (nq) sq (X):=by rintro _ ⟨s',rfl⟩;exact HXq.out.below s'.kept.below
     repeat (first|(go_big_quiet_want;(first|apply quiet_load_bx _ rfl rfl qb0|apply quiet_load_bx _ rfl rfl qb1);(focus(simp[go_sem];rfl));go_big_quiet_on)|go_big_quiet_step (fail))
     refine wpQuiet_nil ?_;have ra:=rck _ne x30 lx;have rb:=rck _ne b30 lb
     repeat (first|(go_big_quiet_want;(first|apply quiet_load_bx _ rfl rfl qb0|apply quiet_load_bx _ rfl rfl qb1);(focus(simp[go_sem];rfl));go_big_quiet_on)|go_big_quiet_step (fail))
     refine wpQuiet_nil ?_;have KH_w91:=Lib.hid K_w91;have hw_w91:=K_w91.below;have hz_w91:=K_w91.size;clear K_w91;clear E_w91 F_w91
     refine⟨fun K hK0=> ?_,trivial⟩
     have hK:=Lib.hid hK0;clear hK0;go_wp2_with fail
     with_reducible refine(brvalidT sx X _ (HOx.out.rd.below KH_w91.out.below) HVX.out).mono ?_
     rintro e u1 ⟨rfl,hb⟩;have HU:Hid (Below wr.heap.size wr u1):=Lib.hid (below_via KH_w91.out.below hb);clear hb;go_wp2_with fail
     first|refine⟨rfl,?u,hK.out _ _ ?_⟩|refine⟨?u,hK.out _ _ ?_⟩
     case u=>exact⟨⟨_,(⟨HU.out,HU.out.size,by simp⟩:Kept wr.heap.size wr wr.heap.size [] u1),trivial⟩,rfl⟩
     clear hK K
     repeat (first|(go_big_quiet_want;(first|apply quiet_load_bx _ rfl rfl qb0|apply quiet_load_bx _ rfl rfl qb1);(focus(simp[go_sem];rfl));go_big_quiet_on)|go_big_quiet_step (fail))
     refine wpQuiet_nil ?_
     repeat (first|(go_big_quiet_want;(first|apply quiet_load_bx _ rfl rfl qb0|apply quiet_load_bx _ rfl rfl qb1);(focus(simp[go_sem];rfl));go_big_quiet_on)|go_big_quiet_step (fail))
     refine wpQuiet_nil ?_
     repeat (first|(go_big_quiet_want;(first|apply quiet_load_bx _ rfl rfl qb0|apply quiet_load_bx _ rfl rfl qb1);(focus(simp[go_sem];rfl));go_big_quiet_on)|go_big_quiet_step (fail))
     refine wpQuiet_nil ?_
     repeat (first|(go_big_quiet_want;(first|apply quiet_load_bx _ rfl rfl qb0|apply quiet_load_bx _ rfl rfl qb1);(focus(simp[go_sem];rfl));go_big_quiet_on)|go_big_quiet_step (fail))
     refine wpQuiet_nil ?_
     refine⟨fun K hK0=> ?_,trivial⟩
     have hK:=Lib.hid hK0;clear hK0;go_wp2_with fail
     with_reducible refine(rsame sx sq X _ (HOx.out.rd.below HU.out) (HRq.out.below HU.out)).mono ?_
     rintro e u2 ⟨rfl,hb⟩;replace HU:Hid (Below wr.heap.size wr u2):=Lib.hid (below_via HU.out hb);clear hb;go_wp2_with fail
     first|refine⟨rfl,?u,hK.out _ _ ?_⟩|refine⟨?u,hK.out _ _ ?_⟩
     case u=>exact⟨⟨_,(⟨HU.out,HU.out.size,by simp⟩:Kept wr.heap.size wr wr.heap.size [] u2),trivial⟩,rfl⟩
     clear hK K
     repeat (first|(go_big_quiet_want;(first|apply quiet_load_bx _ rfl rfl qb0|apply quiet_load_bx _ rfl rfl qb1);(focus(simp[go_sem];rfl));go_big_quiet_on)|go_big_quiet_step (fail))
     refine wpQuiet_nil ?_
     repeat (first|(go_big_quiet_want;(first|apply quiet_load_bx _ rfl rfl qb0|apply quiet_load_bx _ rfl rfl qb1);(focus(simp[go_sem];rfl));go_big_quiet_on)|go_big_quiet_step (fail))
     refine wpQuiet_nil ?_
     repeat (first|(go_big_quiet_want;(first|apply quiet_load_bx _ rfl rfl qb0|apply quiet_load_bx _ rfl rfl qb1);(focus(simp[go_sem];rfl));go_big_quiet_on)|go_big_quiet_step (fail))
     refine wpQuiet_nil ?_
     repeat (first|(go_big_quiet_want;(first|apply quiet_load_bx _ rfl rfl qb0|apply quiet_load_bx _ rfl rfl qb1);(focus(simp[go_sem];rfl));go_big_quiet_on)|go_big_quiet_step (fail))
     refine wpQuiet_nil ?_
     repeat (first|(go_big_quiet_want;(first|apply quiet_load_bx _ rfl rfl qb0|apply quiet_load_bx _ rfl rfl qb1);(focus(simp[go_sem];rfl));go_big_quiet_on)|go_big_quiet_step (fail))
     refine wpQuiet_nil ?_
     repeat (first|(go_big_quiet_want;(first|apply quiet_load_bx _ rfl rfl qb0|apply quiet_load_bx _ rfl rfl qb1);(focus(simp[go_sem];rfl));go_big_quiet_on)|go_big_quiet_step (fail))
     refine wpQuiet_nil ?_
     refine⟨fun K hK0=> ?_,trivial⟩
     have hK:=Lib.hid hK0;clear hK0;go_wp2_with fail
     with_reducible refine(gsame _ _ B.qu _ (HHQ1.out.below HU.out) (HHQ2.out.below HU.out)).mono ?_
     rintro e u3 ⟨rfl,hb⟩;replace HU:Hid (Below wr.heap.size wr u3):=Lib.hid (below_via HU.out hb);clear hb;go_wp2_with fail
     first|refine⟨rfl,?u,hK.out _ _ ?_⟩|refine⟨?u,hK.out _ _ ?_⟩
     case u=>exact⟨⟨_,(⟨HU.out,HU.out.size,by simp⟩:Kept wr.heap.size wr wr.heap.size [] u3),trivial⟩,rfl⟩
     clear hK K
     repeat (first|(go_big_quiet_want;(first|apply quiet_load_bx _ rfl rfl qb0|apply quiet_load_bx _ rfl rfl qb1);(focus(simp[go_sem];rfl));go_big_quiet_on)|go_big_quiet_step (fail))
     refine wpQuiet_nil ?_;clear ra rb;clear _ne qb0 qb1;go_wp2_with fail
     go_meet
     case rel=>exact⟨rfl,HU.out⟩
   obtain⟨u3,rfl⟩:∃W,W=wc:=⟨_,rfl⟩
   obtain⟨rfl,hb⟩:=hcut
   have HCU:Hid (wr.heap.size≤u3.heap.size):=Lib.hid hb.size;replace HB:=Lib.hid (below_via HB.out hb);replace HXb:=Lib.hid (HXb.out.below hb);replace HXx:=Lib.hid (HXx.out.below hb);replace HXp:=Lib.hid (HXp.out.below hb);replace HXq:=Lib.hid (HXq.out.below hb);replace HOx:=Lib.hid (HOx.out.below hb);replace HRp:=Lib.hid (HRp.out.below hb);replace HRq:=Lib.hid (HRq.out.below hb);clear hb x30 b30 lx lb e1 e1' e2 e2' e2'' e3 e4 e5 e5' j1 j2 j4 j5 HHQ1 HHQ2
   as_aux_lemma=>
    go_upto_region 17 with fail
    go_wp2_with (first|(refine wpList_load_bx _ rfl rfl HXx.out (by kernel_rfl) ?_))
    with_reducible refine(drain_ok sx X _ HOx.out.rd HVX.out).mono ?_
    rintro e wt6 ⟨sd,rfl,ho,hb⟩;have HCt10:Hid (u3.heap.size≤wt6.heap.size):=Lib.hid (hb.size);replace HB:=Lib.hid (below_via HB.out hb);replace HXb:=Lib.hid (HXb.out.below hb);replace HXx:=Lib.hid (HXx.out.below hb);replace HXp:=Lib.hid (HXp.out.below hb);replace HXq:=Lib.hid (HXq.out.below hb);replace HOx:=Lib.hid (HOx.out.below hb);replace HRp:=Lib.hid (HRp.out.below hb);replace HRq:=Lib.hid (HRq.out.below hb);have HOd:=Lib.hid ho;clear ho hb;go_wp2_with (first|(refine wpList_store_bh rfl _ _ rfl rfl rfl (heap_alloc_new _ _) rfl ?_))
    intro wt7 hw0;have hbx:=boxed hw0.out
    obtain⟨nd,hn⟩:∃n,n=wt6.heap.size:=⟨_,rfl⟩
    rw[←hn] at hbx ⊢
    have hb:=hbx.1;rw[hn] at hb
    clear hw0;replace HB:=Lib.hid (below_via HB.out hb);replace HXb:=Lib.hid (HXb.out.below hb);replace HXx:=Lib.hid (HXx.out.below hb);replace HXp:=Lib.hid (HXp.out.below hb);replace HXq:=Lib.hid (HXq.out.below hb);replace HOx:=Lib.hid (HOx.out.below hb);replace HOd:=Lib.hid (HOd.out.below hb);replace HRp:=Lib.hid (HRp.out.below hb);replace HRq:=Lib.hid (HRq.out.below hb);have HXd:Hid (Bx wt7 nd sd ((drB X))):=Lib.hid hbx.2;have HCt11:Hid (wt6.heap.size≤nd∧nd<wt7.heap.size):=Lib.hid (⟨by omega,hbx.2.lt⟩);clear hbx hn hb
    go_upto_region 18 with fail
    go_wp2_with (first|(refine wpList_load_bx _ rfl rfl HXx.out (by kernel_rfl) ?_))
    with_reducible refine(order_okC sx X _ HOx.out.rd HVX.out.i HVX.out.sm HVX.out.tl HVX.out).mono ?_
    rintro e wt8 ⟨oa,oc,rfl,hm,hoc,hb⟩;have HCt12:Hid (wt7.heap.size≤wt8.heap.size):=Lib.hid (hb.size);replace HB:=Lib.hid (below_via HB.out hb);replace HXb:=Lib.hid (HXb.out.below hb);replace HXx:=Lib.hid (HXx.out.below hb);replace HXp:=Lib.hid (HXp.out.below hb);replace HXq:=Lib.hid (HXq.out.below hb);replace HXd:=Lib.hid (HXd.out.below hb);replace HOx:=Lib.hid (HOx.out.below hb);replace HOd:=Lib.hid (HOd.out.below hb);replace HRp:=Lib.hid (HRp.out.below hb);replace HRq:=Lib.hid (HRq.out.below hb);have HM:=Lib.hid hm;have HOC:=Lib.hid hoc;clear hm hoc hb
    obtain⟨wv,hwv⟩:∃W,W=wt8:=⟨_,rfl⟩
    rw[←hwv] at HB HXb HXx HXd HXq HOx HOd HRp HRq HM ⊢
    clear hwv HXp HRp HC5 HC6 HC7 HC8 HC9 HCQ HCU HCt10 HCt11 HCt12;have hol:(ordL X).length=xl:=by rw[ordL_len,HXLE.out]
    rw[hol] at HM HOC ⊢
    have HOL:=Lib.hid hol
    obtain⟨ta,tc,htv,htc⟩:=HOd.out.st.cap
    obtain⟨da,dc,hdv⟩:∃a c,sd.qu.v= .slice a 0 c:=by
     obtain⟨l,h1,h2,_⟩:=HOd.out.rd.qu
     obtain⟨_,a,c,h3,_⟩:=h2.form
     have h4:l.length=0:=by rw[←List.length_map (f:=Prod.fst),h1];rfl
     exact⟨a,c,by rw[h3,h4]⟩
    obtain⟨sa,sc,hsv⟩:∃a c,s.st.v= .slice a B.st.length c:=by
     obtain⟨l,h1,h2,_⟩:=HR.out.st
     obtain⟨_,a,c,h3,_⟩:=h2.form
     exact⟨a,c,by rw[h3,←h1,List.length_map]⟩
    obtain⟨dl,hdl⟩:∃n,n=(drB X).st.length:=⟨_,rfl⟩
    obtain⟨bs,hbs⟩:∃n,n=B.st.length:=⟨_,rfl⟩
    rw[←hdl] at htv htc
    rw[←hbs] at hsv
    have hle:=HDL.out;have hf3:=HF3.out;have hst:=HST.out;rw[←hdl,←hbs,←HXLE.out] at hle
    have hle1:dl≤200∧dl≤bs+xl:=by omega
    have HLE2:Hid (((bs:Int)+(xl:Int)<200→dl=bs+xl)∧((200:Int)≤(bs:Int)+(xl:Int)→dl=200)):=Lib.hid (by omega);rw[←hdl,←hbs] at hf3
    rw[←hbs] at hst
    have hbd:bs≤dl:=by omega
    clear hle;have x30:wv.cell? ⟨nx,30,none⟩=some (.slice xa xl xc):=by rw[←HXV.out];exact HXx.out.cell 30
    have d30:wv.cell? ⟨nd,30,none⟩=some (.slice da 0 dc):=by rw[←hdv];exact HXd.out.cell 30
    have d29:wv.cell? ⟨nd,29,none⟩=some (.slice ta dl tc):=by rw[←htv];exact HXd.out.cell 29
    have b29:wv.cell? ⟨w.heap.size,29,none⟩=some (.slice sa bs sc):=by rw[←hsv];exact HXb.out.cell 29
    have lx:nx<wv.heap.size:=HXx.out.lt;have ld:nd<wv.heap.size:=HXd.out.lt;have lb:w.heap.size<wv.heap.size:=HXb.out.lt;have hr9:ItR wv (.slice ta dl tc) (drB X).st:=by rw[←htv];exact HOd.out.rd.st
    obtain⟨k9,hk9⟩:∃k,k=dl-bs:=⟨_,rfl⟩
    have HT1:Hid (ItR wv (.slice ta bs tc) B.st):=Lib.hid (by
     have h2:=hr9.take hbd htc.2;rw[hbs,HF2.out] at h2
     rw[hbs];exact h2)
    have HT2:Hid (ItR wv (.slice sa bs sc) B.st):=Lib.hid (by rw[←hsv];exact(HR.out.below HB.out).st)
    have HT3:Hid (ItR wv (.slice oa k9 oc) ((drB X).st.drop bs)):=Lib.hid (by
     rw[hf3,hk9];exact HM.out.take (by omega) HOC.out.2)
    have e0:((xl:Int) !=(xl:Int))=false:=by simp
    have e0':(xl !=xl)=false:=by simp
    have e3':(dl:Int)-(bs:Int)=(k9:Int):=by omega
    have j1:(0:Int)≤(bs:Int):=by omega
    have j2:(bs:Int)≤(dl:Int):=by omega
    have j3:bs≤tc:=by omega
    have j4:(bs:Int)≤(tc:Int):=by omega
    have j5:(0:Int)≤(k9:Int):=by omega
    have j6:(k9:Int)≤(xl:Int):=by omega
    have j7:k9≤oc:=by have:=HOC.out.1;omega
    have j8:(k9:Int)≤(oc:Int):=by omega
    have j9:(dl:Int)≤(tc:Int):=by omega
    have HOP:=Lib.hid (htv▸HOd.out.st).pos0;have HR9:=Lib.hid hr9;have HVY:Hid (VB (drB X)):=Lib.hid (VB.dr HVX.out);clear htv hdv hsv hdl hbs hf3 hr9 hol
    go_upto_region 19 with fail
    go_cut [231] from 27 (fun s0 wx=>s0= .bool false∧Below wv.heap.size wv wx)
    case first=>
     rcases HOP.out with rfl|⟨g,rfl⟩
     all_goals by_cases ha5:(bs:Int)+(xl:Int)<200
     all_goals (first|exact absurd (HLE2.out.2 (Int.not_lt.1 ha5)) (by have h1:=htc.2 rfl;have h2:=htc.1;omega)|skip)
     all_goals (first|(have e2:((dl:Int) !=(bs:Int)+(xl:Int))=false:=(by rw[HLE2.out.1 ha5];simp))|(have e2:((dl:Int) !=200)=false:=(by rw[HLE2.out.2 (Int.not_lt.1 ha5)];simp)))
     all_goals (first|(have htc0:tc=0:=htc.2 rfl;have h9:=HLE2.out.1 ha5;clear e2;obtain rfl:dl=0:=Nat.le_zero.1 (htc0▸htc.1);obtain rfl:bs=0:=Nat.le_zero.1 hbd;obtain rfl:k9=0:=hk9;subst htc0;have HT4:Hid (ItR wv (.slice none 0 0) ((drB X).st.drop 0)):=Lib.hid HR9.out;have hx0:xl=0:=(by omega);have e2:((0:Int) !=(xl:Int))=false:=(by rw[hx0];rfl);clear hx0 h9 e3' j1 j2 j3 j4 j5 j6 j7 j8 j9 hle1 hst hxu)|(subst hk9;have HA:∃o':Nat,(if tc=bs then (some (⟨g,0,none⟩:Addr)) else some ⟨g,bs*5,none⟩)=some ⟨g,o',none⟩∧(bs<dl→o' =0+bs*5):=cut5 htc.1;obtain⟨o',hA,hA2⟩:=HA;have HT4:Hid (ItR wv (.slice (some ⟨g,o',none⟩) (dl-bs) (tc-bs)) ((drB X).st.drop bs)):=Lib.hid (HR9.out.drop hbd _ _ hA2);clear hA2))
     all_goals
      as_aux_lemma=>
       have a5:=ha5
       dsimp only[List.append]
       refine rg7_19 (w0:=wv) (B:=wv.heap.size) (n:=wv.heap.size) (L:=[]) (by kernel_rfl) rfl (by kernel_rfl) (.t ⟨by go_grown,by go_size,(by simp[go_sem]<;>omega)⟩) (fun w91 K_w91 E_w91 F_w91=> ?_);have _ne:Nonempty (KX (wv.heap.size) wv (wv.heap.size) [] (fun _=>True)):=⟨⟨_,K_w91,E_w91⟩⟩;have qb0:∀W',(∃s':KX (wv.heap.size) wv (wv.heap.size) [] (fun _=>True),W' =s'.val)→Bx W' (nd) sd ((drB X)):=by rintro _ ⟨s',rfl⟩;exact HXd.out.below s'.kept.below
       repeat (first|(go_big_quiet_want;(first|apply quiet_load_bx _ rfl rfl qb0);(focus(simp[go_sem];rfl));go_big_quiet_on)|go_big_quiet_step (fail))
       refine wpQuiet_nil ?_;have ra:=rck _ne x30 lx;have rb:=rck _ne d30 ld;have rc:=rck _ne d29 ld;have rd:=rck _ne b29 lb
       repeat (first|(go_big_quiet_want;(first|apply quiet_load_bx _ rfl rfl qb0);(focus(simp[go_sem];rfl));go_big_quiet_on)|go_big_quiet_step (fail))
       refine wpQuiet_nil ?_
       repeat (first|(go_big_quiet_want;(first|apply quiet_load_bx _ rfl rfl qb0);(focus(simp[go_sem];rfl));go_big_quiet_on)|go_big_quiet_step (fail))
       refine wpQuiet_nil ?_
       repeat (first|(go_big_quiet_want;(first|apply quiet_load_bx _ rfl rfl qb0);(focus(simp[go_sem];rfl));go_big_quiet_on)|go_big_quiet_step (fail))
       refine wpQuiet_nil ?_;have KH_w91:=Lib.hid K_w91;have hw_w91:=K_w91.below;have hz_w91:=K_w91.size;clear K_w91;clear E_w91 F_w91
       refine⟨fun K hK0=> ?_,trivial⟩
       have hK:=Lib.hid hK0;clear hK0;go_wp2_with fail
       with_reducible refine(brvalidT sd (drB X) _ (HOd.out.rd.below KH_w91.out.below) HVY.out).mono ?_
       rintro e u1 ⟨rfl,hb⟩;have HU:Hid (Below wv.heap.size wv u1):=Lib.hid (below_via KH_w91.out.below hb);clear hb;go_wp2_with fail
       first|refine⟨rfl,?u,hK.out _ _ ?_⟩|refine⟨?u,hK.out _ _ ?_⟩
       case u=>exact⟨⟨_,(⟨HU.out,HU.out.size,by simp⟩:Kept wv.heap.size wv wv.heap.size [] u1),trivial⟩,rfl⟩
       clear hK K
       repeat (first|(go_big_quiet_want;(first|apply quiet_load_bx _ rfl rfl qb0);(focus(simp[go_sem];rfl));go_big_quiet_on)|go_big_quiet_step (fail))
       refine wpQuiet_nil ?_
       repeat (first|(go_big_quiet_want;(first|apply quiet_load_bx _ rfl rfl qb0);(focus(simp[go_sem];rfl));go_big_quiet_on)|go_big_quiet_step (fail))
       refine wpQuiet_nil ?_
       repeat (first|(go_big_quiet_want;(first|apply quiet_load_bx _ rfl rfl qb0);(focus(simp[go_sem];rfl));go_big_quiet_on)|go_big_quiet_step (fail))
       refine wpQuiet_nil ?_
       repeat (first|(go_big_quiet_want;(first|apply quiet_load_bx _ rfl rfl qb0);(focus(simp[go_sem];rfl));go_big_quiet_on)|go_big_quiet_step (fail))
       refine wpQuiet_nil ?_
       repeat (first|(go_big_quiet_want;(first|apply quiet_load_bx _ rfl rfl qb0);(focus(simp[go_sem];rfl));go_big_quiet_on)|go_big_quiet_step (fail))
       refine wpQuiet_nil ?_
       repeat (first|(go_big_quiet_want;(first|apply quiet_load_bx _ rfl rfl qb0);(focus(simp[go_sem];rfl));go_big_quiet_on)|go_big_quiet_step (fail))
       refine wpQuiet_nil ?_
       repeat (first|(go_big_quiet_want;(first|apply quiet_load_bx _ rfl rfl qb0);(focus(simp[go_sem];rfl));go_big_quiet_on)|go_big_quiet_step (fail))
       refine wpQuiet_nil ?_
       repeat (first|(go_big_quiet_want;(first|apply quiet_load_bx _ rfl rfl qb0);(focus(simp[go_sem];rfl));go_big_quiet_on)|go_big_quiet_step (fail))
       refine wpQuiet_nil ?_
       repeat (first|(go_big_quiet_want;(first|apply quiet_load_bx _ rfl rfl qb0);(focus(simp[go_sem];rfl));go_big_quiet_on)|go_big_quiet_step (fail))
       refine wpQuiet_nil ?_
       repeat (first|(go_big_quiet_want;(first|apply quiet_load_bx _ rfl rfl qb0);(focus(simp[go_sem];rfl));go_big_quiet_on)|go_big_quiet_step (fail))
       refine wpQuiet_nil ?_
       repeat (first|(go_big_quiet_want;(first|apply quiet_load_bx _ rfl rfl qb0);(focus(simp[go_sem];rfl));go_big_quiet_on)|go_big_quiet_step (fail))
       refine wpQuiet_nil ?_
       repeat (first|(go_big_quiet_want;(first|apply quiet_load_bx _ rfl rfl qb0);(focus(simp[go_sem];rfl));go_big_quiet_on)|go_big_quiet_step (fail))
       refine wpQuiet_nil ?_
       refine⟨fun K hK0=> ?_,trivial⟩
       have hK:=Lib.hid hK0;clear hK0;go_wp2_with fail
       with_reducible refine(gsame _ _ B.st _ (HT1.out.below HU.out) (HT2.out.below HU.out)).mono ?_
       rintro e u2 ⟨rfl,hb⟩;replace HU:Hid (Below wv.heap.size wv u2):=Lib.hid (below_via HU.out hb);clear hb;go_wp2_with fail
       first|refine⟨rfl,?u,hK.out _ _ ?_⟩|refine⟨?u,hK.out _ _ ?_⟩
       case u=>exact⟨⟨_,(⟨HU.out,HU.out.size,by simp⟩:Kept wv.heap.size wv wv.heap.size [] u2),trivial⟩,rfl⟩
       clear hK K
       repeat (first|(go_big_quiet_want;(first|apply quiet_load_bx _ rfl rfl qb0);(focus(simp[go_sem];rfl));go_big_quiet_on)|go_big_quiet_step (fail))
       refine wpQuiet_nil ?_
       repeat (first|(go_big_quiet_want;(first|apply quiet_load_bx _ rfl rfl qb0);(focus(simp[go_sem];rfl));go_big_quiet_on)|go_big_quiet_step (fail))
       refine wpQuiet_nil ?_
       repeat (first|(go_big_quiet_want;(first|apply quiet_load_bx _ rfl rfl qb0);(focus(simp[go_sem];rfl));go_big_quiet_on)|go_big_quiet_step (fail))
       refine wpQuiet_nil ?_
       repeat (first|(go_big_quiet_want;(first|apply quiet_load_bx _ rfl rfl qb0);(focus(simp[go_sem];rfl));go_big_quiet_on)|go_big_quiet_step (fail))
       refine wpQuiet_nil ?_
       repeat (first|(go_big_quiet_want;(first|apply quiet_load_bx _ rfl rfl qb0);(focus(simp[go_sem];rfl));go_big_quiet_on)|go_big_quiet_step (fail))
       refine wpQuiet_nil ?_
       repeat (first|(go_big_quiet_want;(first|apply quiet_load_bx _ rfl rfl qb0);(focus(simp[go_sem];rfl));go_big_quiet_on)|go_big_quiet_step (fail))
       refine wpQuiet_nil ?_
       repeat (first|(go_big_quiet_want;(first|apply quiet_load_bx _ rfl rfl qb0);(focus(simp[go_sem];rfl));go_big_quiet_on)|go_big_quiet_step (fail))
       refine wpQuiet_nil ?_
       refine⟨fun K hK0=> ?_,trivial⟩
       have hK:=Lib.hid hK0;clear hK0;go_wp2_with fail
       with_reducible refine(gsame _ _ _ _ (HT4.out.below HU.out) (HT3.out.below HU.out)).mono ?_
       rintro e u3 ⟨rfl,hb⟩;replace HU:Hid (Below wv.heap.size wv u3):=Lib.hid (below_via HU.out hb);clear hb;go_wp2_with fail
       first|refine⟨rfl,?u,hK.out _ _ ?_⟩|refine⟨?u,hK.out _ _ ?_⟩
       case u=>exact⟨⟨_,(⟨HU.out,HU.out.size,by simp⟩:Kept wv.heap.size wv wv.heap.size [] u3),trivial⟩,rfl⟩
       clear hK K
       repeat (first|(go_big_quiet_want;(first|apply quiet_load_bx _ rfl rfl qb0);(focus(simp[go_sem];rfl));go_big_quiet_on)|go_big_quiet_step (fail))
       refine wpQuiet_nil ?_;clear ra rb rc rd;clear _ne qb0;go_wp2_with fail
       go_meet
       case rel=>exact⟨rfl,HU.out⟩
    obtain⟨wy,rfl⟩:∃W,W=wc:=⟨_,rfl⟩
    obtain⟨rfl,hb⟩:=hcut
    as_aux_lemma=>
     have hbz:Below w.heap.size w wy:=below_via HB.out hb;have HBZ:=Lib.hid hbz
     obtain⟨l',hl',hlr,_⟩:=HM.out.below hb
     obtain⟨_,a9,c9,hv9,hf9⟩:=hlr.form
     have hl9:l'.length=xl:=by rw[←HOL.out,←hl',List.length_map]
     rw[hl9] at hv9 hf9
     simp only[Value.slice.injEq] at hv9
     obtain⟨rfl,hz9,rfl⟩:=hv9
     have HLF:=Lib.hid hf9;have HLE:=Lib.hid hl';have HLN:=Lib.hid hl9;have HXC2:=Lib.hid (HXb.out.below hb);clear hb hbz hl' hlr hl9 hf9 hz9 x30 d30 d29 b29 lx ld lb e0 e0' e3' j1 j2 j3 j4 j5 j6 j7 j8 j9 hle1 hst hbd hk9 htc;go_wp2_with fail
     go_loopw [26] (fun i wr=>HoO wy xl i wr) (fun i _=>xl-(intOf i).toNat)
     case atStart=>exact⟨1,by omega,by omega,rfl,Below.refl _ _⟩
     case round=>
      obtain⟨m,hm1,hm2,rfl,hb⟩:=hrel
      have HBR:=Lib.hid hb
      by_cases hml:m<xl
      case neg=>
       have t1:decide ((m:Int)<(xl:Int))=false:=decide_eq_false (by omega);have t1':decide (m<xl)=false:=decide_eq_false hml;clear hb
       go_upto_region 26 with fail
       clear t1 t1';go_wp2_with fail
       with_reducible refine(known _).mono ?_
       rintro e w9 ⟨rfl,hb⟩;have HBE:=Lib.hid (below_via (below_via HBZ.out HBR.out) hb);clear hb;go_wp2_with fail
       go_returns
       exact⟨rfl,HBE.out⟩
      case pos=>
      have t1:decide ((m:Int)<(xl:Int))=true:=decide_eq_true (by omega);have t1':decide (m<xl)=true:=decide_eq_true hml
      obtain⟨y,hy⟩:∃y,l'[m]? =some y:=⟨_,List.getElem?_eq_getElem (by have:=HLN.out;omega)⟩
      obtain⟨x,hx⟩:∃x,l'[m-1]? =some x:=⟨_,List.getElem?_eq_getElem (by have:=HLN.out;omega)⟩
      obtain⟨b,off,rfl,hlb,hc⟩:=HLF.out (by omega)
      have d0:wr.cell? ⟨b,off+m*5,none⟩=some (.int .i64 y.1.pl):=(hb.cell (p:=⟨b,off+m*5,none⟩) hlb).trans (hc m y hy 0 _ rfl);have d1:wr.cell? ⟨b,off+(m-1)*5,none⟩=some (.int .i64 x.1.pl):=(hb.cell (p:=⟨b,off+(m-1)*5,none⟩) hlb).trans (hc (m-1) x hx 0 _ rfl);have b34:wr.cell? ⟨w.heap.size,34,none⟩=some (.int .i64 B.ac):=(HXC2.out.below hb).cell 34;have lb:w.heap.size<wr.heap.size:=(HXC2.out.below hb).lt;replace hlb:b<wr.heap.size:=Nat.lt_of_lt_of_le hlb hb.size;have i1:(0:Int)≤(m:Int):=by omega
      have i2:(m:Int)<(xl:Int):=by omega
      have i3:wrap64 ((m:Int)-1)=((m-1:Nat):Int):=by have:=HXU.out;unfold wrap64;omega
      have i3':(m:Int)-1=((m-1:Nat):Int):=by omega
      have i4:(0:Int)≤((m-1:Nat):Int):=by omega
      have i5:((m-1:Nat):Int)<(xl:Int):=by omega
      have hno:(y.1.pl==B.ac)=true→(x.1.pl !=B.ac)=false:=fun h=>by
       rw[←HXA.out] at h ⊢
       refine ordL_act (B:=X) (k:=m-1) (x:=x.1) (y:=y.1) ?_ ?_ h
       ·rw[←HLE.out,List.getElem?_map,hx];rfl
       ·rw[show m-1+1=m by omega,←HLE.out,List.getElem?_map,hy];rfl
      have HNO:=Lib.hid hno;clear hc hy hx hb hno
      obtain⟨r,hr⟩:∃r,(y.1.pl==B.ac)=r:=⟨_,rfl⟩
      go_upto_region 24 with fail
      clear t1 t1'
      cases r
      ·refine rg7_24 (w0:=wr) (B:=wr.heap.size) (n:=wr.heap.size) (L:=[]) (by kernel_rfl) rfl (by kernel_rfl) (.t ⟨by go_grown,by go_size,(by simp[go_sem]<;>omega)⟩) (fun w91 K_w91 E_w91 F_w91=> ?_)
       have _ne:Nonempty (KX (wr.heap.size) wr (wr.heap.size) [] (fun _=>True)):=⟨⟨_,K_w91,E_w91⟩⟩
       repeat (go_big_quiet_step (fail))
       refine wpQuiet_nil ?_;have ra:=rck _ne d0 hlb;have rb:=rck _ne d1 hlb;have rc:=rck _ne b34 lb
       repeat (go_big_quiet_step (fail))
       refine wpQuiet_nil ?_
       repeat (go_big_quiet_step (fail))
       refine wpQuiet_nil ?_
       repeat (go_big_quiet_step (fail))
       refine wpQuiet_nil ?_
       repeat (go_big_quiet_step (fail))
       refine wpQuiet_nil ?_;clear ra rb rc;clear _ne;have KH_w91:=Lib.hid K_w91;have hw_w91:=K_w91.below;have hz_w91:=K_w91.size;clear K_w91;clear E_w91 F_w91;replace HBR:=Lib.hid (below_via HBR.out KH_w91.out.below);clear d0 d1 b34 lb hlb;go_wp2_with fail
       go_roundw
       case rel=>exact⟨m+1,by omega,by omega,by go_num,HBR.out⟩
       case measure=>simp[intOf];omega
      ·have hn2:=HNO.out hr
       refine rg7_24 (w0:=wr) (B:=wr.heap.size) (n:=wr.heap.size) (L:=[]) (by kernel_rfl) rfl (by kernel_rfl) (.t ⟨by go_grown,by go_size,(by simp[go_sem]<;>omega)⟩) (fun w91 K_w91 E_w91 F_w91=> ?_);have _ne:Nonempty (KX (wr.heap.size) wr (wr.heap.size) [] (fun _=>True)):=⟨⟨_,K_w91,E_w91⟩⟩
       repeat (go_big_quiet_step (fail))
       refine wpQuiet_nil ?_;have ra:=rck _ne d0 hlb;have rb:=rck _ne d1 hlb;have rc:=rck _ne b34 lb
       repeat (go_big_quiet_step (fail))
       refine wpQuiet_nil ?_
       repeat (go_big_quiet_step (fail))
       refine wpQuiet_nil ?_
       repeat (go_big_quiet_step (fail))
       refine wpQuiet_nil ?_
       repeat (go_big_quiet_step (fail))
       refine wpQuiet_nil ?_;clear ra rb rc;clear _ne;have KH_w91:=Lib.hid K_w91;have hw_w91:=K_w91.below;have hz_w91:=K_w91.size;clear K_w91;clear E_w91 F_w91;replace HBR:=Lib.hid (below_via HBR.out KH_w91.out.below);clear d0 d1 b34 lb hlb;go_wp2_with fail
       go_roundw
       case rel=>exact⟨m+1,by omega,by omega,by go_num,HBR.out⟩
       case measure=>simp[intOf];omega
end Go.Proofs.Ytgkgbpapfjjkcaa
