/- What the reading of cards and of happenings, as arguments, says. The examples' triggers. The examples' triggers are the ones that are wanted. -/
import Derived.Test.YtgkgbpapfjjkcaaBOp
import Derived.Test.YtgkgbpapfjjkcaaTCe
import Derived.Test.YtgkgbpapfjjkcaaTCo
import Derived.Deep.Slices
import Derived.Deep.Fields
import Derived.OpenShut
import Derived.WideShapes
import Derived.Test.YtgkgbpapfjjkcaaTEx
import Derived.Deep.DeepCutAuto
import Derived.LoopTactic
import Derived.Deep.MidRow
import Derived.Test.YtgkgbpapfjjkcaaTOg
import Derived.Test.YtgkgbpapfjjkcaaTWo
namespace Go.Proofs.Ytgkgbpapfjjkcaa
open Go.RowKit Plain Go.ChangeShapes Go.WideShapes Go.ChangeAt Go.WideMaps Go.WideElems
set_option linter.unusedVariables false
set_option linter.unusedSimpArgs false

section
variable {H:Type} {enc:TypeId×Value→H} {w:World} {base:Nat} {spare:Nat→Bool} {held:Bool}
set_option maxRecDepth 100000 in
theorem ef_cs{m:Nat}{cs:List Value}{x:DataW H×List MemPlace}(h:DataW.trod enc Try.prog w base spare held m 104 cs=some x):∃a:Ef,cs=efc a∧True:=by
 obtain⟨hl,m,hf⟩:=sfld Try.underlying104 h
 obtain⟨z0,e0,i0⟩:=int_at Try.underlying101 (by kernel_rfl) (hf 0 _ rfl)
 obtain⟨z1,e1,i1⟩:=int_at Try.underlying102 (by kernel_rfl) (hf 1 _ rfl)
 obtain⟨z2,e2,i2⟩:=int_at Try.underlying3 (by kernel_rfl) (hf 2 _ rfl)
 obtain⟨z3,e3,i3⟩:=int_at Try.underlying3 (by kernel_rfl) (hf 3 _ rfl)
 obtain⟨z4,e4,i4⟩:=int_at Try.underlying68 (by kernel_rfl) (hf 4 _ rfl)
 exact⟨⟨z0,z1,z2,z3,z4⟩,eq_of_at (hl.trans (by kernel_rfl)) (fun i hi=>by
  match i,hi with
  |0,_=>exact e0
  |1,_=>exact e1
  |2,_=>exact e2
  |3,_=>exact e3
  |4,_=>exact e4
  |(q+5),h=>exact absurd (show q+5<5 from h) (by omega)),trivial⟩
set_option maxRecDepth 100000 in
theorem tr_cs{m:Nat}{cs:List Value}{x:DataW H×List MemPlace}(h:DataW.trod enc Try.prog w base spare held m 75 cs=some x):∃a:Int×Sl,cs=trc a∧∃l:List Ef,Rw efc 5 w a.2.v l:=by
 obtain⟨hl,m,hf⟩:=sfld Try.underlying75 h
 obtain⟨z0,e0,i0⟩:=int_at Try.underlying35 (by kernel_rfl) (hf 0 _ rfl)
 obtain⟨s1,l1,e1,r1,_⟩:=rows_at (f:=efc) (sz:=5) Try.underlying70 (by kernel_rfl) (by kernel_rfl) (by decide) (fun _=>rfl) (fun _ _ _ h=>ef_cs h) (hf 1 _ rfl)
 exact⟨(z0,s1),eq_of_at (hl.trans (by kernel_rfl)) (fun i hi=>by
  match i,hi with
  |0,_=>exact e0
  |1,_=>exact e1
  |(q+2),h=>exact absurd (show q+2<2 from h) (by omega)),l1,r1⟩
set_option maxRecDepth 100000 in
theorem hp_cs{m:Nat}{cs:List Value}{x:DataW H×List MemPlace}(h:DataW.trod enc Try.prog w base spare held m 37 cs=some x):∃a:Hp,cs=hpc a∧Plain.I a.id:=by
 obtain⟨hl,m,hf⟩:=sfld Try.underlying37 h
 obtain⟨z0,e0,i0⟩:=int_at Try.underlying35 (by kernel_rfl) (hf 0 _ rfl)
 obtain⟨z1,e1,i1⟩:=int_at Try.underlying3 (by kernel_rfl) (hf 1 _ rfl)
 obtain⟨z2,e2,i2⟩:=int_at Try.underlying3 (by kernel_rfl) (hf 2 _ rfl)
 exact⟨⟨z0,z1,z2⟩,eq_of_at (hl.trans (by kernel_rfl)) (fun i hi=>by
  match i,hi with
  |0,_=>exact e0
  |1,_=>exact e1
  |2,_=>exact e2
  |(q+3),h=>exact absurd (show q+3<3 from h) (by omega)),i1⟩
theorem str_at{m o:Nat}{cs:List Value}(h:∃y,DataW.trod enc Try.prog w base spare held m 9 (List.take (Try.prog.cellsOf 9) (List.drop o cs))=some y):∃z,cs[o]? =some (.string z):=by
 obtain⟨y,h⟩:=h
 obtain⟨s,e,_,_⟩:=DataW.trod_string Try.underlying9 h
 rw[show Try.prog.cellsOf 9=1 by kernel_rfl] at e
 exact⟨s,by have:=cut_at e (show 0<1 by decide);simpa using this⟩
set_option maxRecDepth 100000 in
theorem cd_cs{m:Nat}{cs:List Value}{x:DataW H×List MemPlace}(h:DataW.trod enc Try.prog w base spare held m 73 cs=some x):∃a:Cd×List (Int×Nat),cs=a.1.cells∧CdR w a:=by
 obtain⟨hl,m,hf⟩:=sfld Try.underlying73 h
 obtain⟨z0,e0⟩:=str_at (hf 0 _ rfl)
 obtain⟨z1,e1,i1⟩:=int_at Try.underlying65 (by kernel_rfl) (hf 1 _ rfl)
 obtain⟨yc,hyc⟩:=hf 2 _ rfl
 replace hyc:DataW.trod enc Try.prog w base spare held m 67 (List.take (Try.prog.cellsOf 67) (List.drop 2 cs))=some yc:=hyc
 obtain⟨hlc,mc,hfc⟩:=sfld Try.underlying67 hyc
 obtain⟨ym,hym⟩:=hfc 0 _ rfl
 replace hym:DataW.trod enc Try.prog w base spare held mc 25 (List.take (Try.prog.cellsOf 25) (List.drop 0 (List.take (Try.prog.cellsOf 67) (List.drop 2 cs))))=some ym:=hym
 obtain⟨ma,hpa⟩:=afld (k:=1) Try.underlying25 (by kernel_rfl) hym
 have c5:Try.prog.cellsOf 67=5:=by kernel_rfl
 have c4:Try.prog.cellsOf 25=4:=by kernel_rfl
 rw[c4,c5] at hpa
 rw[c5] at hfc
 obtain⟨p0,f0,_⟩:=int_at Try.underlying3 (by kernel_rfl) (hpa 0 (by decide))
 have e2:cs[2]? =some (.int .i64 p0):=by simpa [List.getElem?_take,List.getElem?_drop] using f0
 obtain⟨p1,f1,_⟩:=int_at Try.underlying3 (by kernel_rfl) (hpa 1 (by decide))
 have e3:cs[3]? =some (.int .i64 p1):=by simpa [List.getElem?_take,List.getElem?_drop] using f1
 obtain⟨p2,f2,_⟩:=int_at Try.underlying3 (by kernel_rfl) (hpa 2 (by decide))
 have e4:cs[4]? =some (.int .i64 p2):=by simpa [List.getElem?_take,List.getElem?_drop] using f2
 obtain⟨p3,f3,_⟩:=int_at Try.underlying3 (by kernel_rfl) (hpa 3 (by decide))
 have e5:cs[5]? =some (.int .i64 p3):=by simpa [List.getElem?_take,List.getElem?_drop] using f3
 obtain⟨p4,f4,_⟩:=int_at Try.underlying3 (by kernel_rfl) (hfc 1 _ rfl)
 have e6:cs[6]? =some (.int .i64 p4):=by
  have f4':(List.take 5 (List.drop 2 cs))[4]? =some (.int .i64 p4):=f4
  simpa [List.getElem?_take,List.getElem?_drop] using f4'
 obtain⟨z7,e7,i7⟩:=int_at Try.underlying68 (by kernel_rfl) (hf 3 _ rfl)
 obtain⟨z8,e8,i8⟩:=int_at Try.underlying3 (by kernel_rfl) (hf 4 _ rfl)
 obtain⟨z9,e9,i9⟩:=int_at Try.underlying3 (by kernel_rfl) (hf 5 _ rfl)
 obtain⟨z10,e10,i10⟩:=int_at Try.underlying69 (by kernel_rfl) (hf 6 _ rfl)
 obtain⟨s11,l11,e11,r11,_⟩:=rows_at (f:=efc) (sz:=5) Try.underlying70 (by kernel_rfl) (by kernel_rfl) (by decide) (fun _=>rfl) (fun _ _ _ h=>ef_cs h) (hf 7 _ rfl)
 obtain⟨s12,l12,e12,r12,q12⟩:=rows_at (f:=trc) (sz:=2) Try.underlying71 (by kernel_rfl) (by kernel_rfl) (by decide) (fun _=>rfl) (fun _ _ _ h=>tr_cs h) (hf 8 _ rfl)
 obtain⟨z13,e13,i13⟩:=int_at Try.underlying3 (by kernel_rfl) (hf 9 _ rfl)
 exact⟨(⟨z0,z1,p0,p1,p2,p3,p4,z7,z8,z9,z10,s11.a,s11.n,s11.c,s12.a,s12.n,s12.c,z13⟩,l12.map (fun t=>(t.1,t.2.n))),eq_of_at (hl.trans (by kernel_rfl)) (fun i hi=>by
  match i,hi with
  |0,_=>exact e0
  |1,_=>exact e1
  |2,_=>exact e2
  |3,_=>exact e3
  |4,_=>exact e4
  |5,_=>exact e5
  |6,_=>exact e6
  |7,_=>exact e7
  |8,_=>exact e8
  |9,_=>exact e9
  |10,_=>exact e10
  |11,_=>exact e11
  |12,_=>exact e12
  |13,_=>exact e13
  |(q+14),h=>exact absurd (show q+14<14 from h) (by omega)),⟨l11,r11⟩,l12,r12,rfl,q12⟩
theorem open_cards{a:Option Addr}{len cap:Nat}{d:DataW H}{p:List MemPlace}(h:DataW.Trod enc Try.prog w base spare held 22 (.slice a len cap) d p):∃l:List (Cd×List (Int×Nat)),CsR w (.slice a len cap) l:=by
 obtain⟨fuel,hf⟩:=h
 obtain⟨s,l,e,r,q⟩:=rows_at (f:=fun x:Cd×List (Int×Nat)=>x.1.cells) (sz:=14) (Q:=CdR w) (o:=0) (cs:=[.slice a len cap]) Try.underlying22 (by kernel_rfl) (by kernel_rfl) (by decide) (fun _=>rfl) (fun m cs y h=>cd_cs h) ⟨_,by rw[show Try.prog.cellsOf 22=1 by kernel_rfl];exact hf⟩
 have es:s.v= .slice a len cap:=by simpa using e.symm
 rw[es] at r
 refine⟨l,?_,q⟩
 rcases r with⟨rfl,h1⟩|⟨h0,h1,b,off,cap',hv,hlt,hc⟩
 ·rcases h1 with h1|⟨a',c',h1⟩
  ·exact .inl ⟨rfl,none,0,h1⟩
  ·exact .inl ⟨rfl,some a',c',h1⟩
 ·refine .inr ⟨by simpa using h0,by simpa using h1,b,off,cap',by rw[List.length_map];exact hv,hlt,fun i c hi j u hu=> ?_⟩
  rw[List.getElem?_map] at hi
  cases hx:l[i]? with
  |none=>rw[hx] at hi;cases hi
  |some y=>
   rw[hx] at hi
   simp at hi
   subst hi;exact hc i y hx j u hu
theorem open_haps{a:Option Addr}{len cap:Nat}{d:DataW H}{p:List MemPlace}(h:DataW.Trod enc Try.prog w base spare held 44 (.slice a len cap) d p):∃l:List Hp,(Rw hpc 3 w (.slice a l.length cap) l∧∀x∈l,Plain.I x.id)∧l.length=len:=by
 obtain⟨fuel,hf⟩:=h
 obtain⟨s,l,e,r,q⟩:=rows_at (f:=hpc) (sz:=3) (Q:=fun x=>Plain.I x.id) (o:=0) (cs:=[.slice a len cap]) Try.underlying44 (by kernel_rfl) (by kernel_rfl) (by decide) (fun _=>rfl) (fun m cs y h=>hp_cs h) ⟨_,by rw[show Try.prog.cellsOf 44=1 by kernel_rfl];exact hf⟩
 have es:s.v= .slice a len cap:=by simpa using e.symm
 rw[es] at r
 obtain⟨_,a2,c2,e2,_⟩:=r.form
 have hl:l.length=len:=by simp at e2;exact e2.2.1.symm
 exact⟨l,⟨by rw[hl];exact r,q⟩,hl⟩
theorem haps_cap{a:Option Addr}{len cap:Nat}{d:DataW H}{p:List MemPlace}(h:DataW.Trod enc Try.prog w base spare held 44 (.slice a len cap) d p):len≤cap∧(a=none→cap=0):=by
 obtain⟨fuel,hf⟩:=h
 rcases Go.Deep.open_slice Try.underlying44 hf with h0|⟨a2,len2,cap2,m,n,D,Pl,h1,_,hl,_⟩
 ·have h1:=h0.1
  simp[Value.cells] at h1
  obtain⟨rfl,rfl,rfl⟩:=h1
  exact⟨Nat.le_refl _,fun _=>rfl⟩
 ·simp[Value.cells] at h1
  obtain⟨rfl,rfl,rfl⟩:=h1
  exact⟨hl,fun e=>by cases e⟩
end
end Go.Proofs.Ytgkgbpapfjjkcaa
namespace Go.Proofs.Ytgkgbpapfjjkcaa
open Go.RowKit Plain
set_option linter.unusedVariables false
set_option linter.unusedSimpArgs false

theorem rg29_6{P:Program}{B n:Nat}{w0:World}{L:List (Nat×Nat×Value)}{E F:World→Prop}{id:Nat}{Q:Exit→Act→World→Prop}{a:Act}{w:World}{A:Array Oper}{o0 o1 o2 o3 o4 o5 o6 o7 o8 o9:Oper}(hm:P.follows .mixedOrders=true)(hA:A=[o0,o1,o2,o3,o4,o5,o6,o7,o8,o9].toArray)(hB:regOk A [4,8] [0,1,2,3,5,6,7,9] (.fs [0,1,2,3,5,6,7] (.rs [4,8] (.fs [9] .done)))=true)(c:RC B w0 n L E F w)
  (h:∀wk,Kept B w0 n L wk→E wk→F wk→wpQuiet P A (fun _=>True) (fun a0=>wpQuiet P A (fun w' =>∃s:KX B w0 n L E,w' =s.val) (fun a1=>wpQuiet P A (fun _=>True) (fun a2=>Q .normal a2 wk) [o9] a1) [o4,o8] a0) [o0,o1,o2,o3,o5,o6,o7] a):(Code.region id A true).wp P Q a w:=by
 subst hA;exact wp_reg _ _ _ hm hB c (fun wk k e f=>have g:=h wk k e f;Scr.of_fs _ _ rfl g fun _ g=>Scr.of_rs _ _ rfl g fun _ g=>Scr.of_fs _ _ rfl g fun _ g=>g)
def IdeL(w:World)(n:Nat)(v:Value)(wr:World):Prop:=∃k:Nat,k≤n∧v= .int .i64 k∧Below w.heap.size w wr
set_option maxRecDepth 100000 in
set_option maxHeartbeats 4000000 in
theorem lided(v u:Value)(l:List It)(ids:List Int)(w:World)(hl:ItR w v l)(hu:Rw ic 1 w u ids)(h:l.map It.id=ids)(hn:l.length≤1000):Calls Try.prog 29 #[v,u] w fun e w' =>e= .returned (.bool true)∧Below w.heap.size w w':=by
 subst h
 obtain⟨l',rfl,hr,_⟩:=hl
 obtain⟨_,a1,c1,rfl,hf1⟩:=hr.form
 obtain⟨_,a2,c2,rfl,hf2⟩:=hu.form
 have HF1:=Lib.hid hf1;have HF2:=Lib.hid hf2;rw[List.length_map] at hn
 have hln:((l'.map Prod.fst).map It.id).length=l'.length:=by rw[List.length_map,List.length_map]
 rw[hln] at HF2
 rw[hln];have q0:(l'.length !=l'.length)=false:=by simp
 have q0':((l'.length:Int) !=(l'.length:Int))=false:=by simp
 have hm9:l'.length≤9223372036854775807:=by omega
 clear hf1 hf2 hr hu hln;go_enter Try.func29,Try.ntmps29;go_wp2_with fail
 clear q0 q0'
 go_loopw [5] (fun v wr=>IdeL w l'.length v wr) (fun v _=>l'.length-(intOf v).toNat)
 case atStart=>exact⟨0,by omega,rfl,Below.refl _ _⟩
 case round=>
  obtain⟨k,hk,rfl,hb⟩:=hrel
  have HB:=Lib.hid hb
  by_cases hkl:k<l'.length
  case neg=>
   obtain rfl:k=l'.length:=by omega
   have t1:decide ((l'.length:Int)<(l'.length:Int))=false:=decide_eq_false (by omega);have t1':decide (l'.length<l'.length)=false:=decide_eq_false (by omega);clear hb;go_wp2_with fail
   go_returns
   exact⟨rfl,HB.out⟩
  case pos=>
  have t1:decide ((k:Int)<(l'.length:Int))=true:=decide_eq_true (by omega);have t1':decide (k<l'.length)=true:=decide_eq_true hkl
  obtain⟨x,hx⟩:∃x,l'[k]? =some x:=⟨_,List.getElem?_eq_getElem hkl⟩
  obtain⟨b,off,rfl,hlb,hc⟩:=HF1.out (by omega)
  obtain⟨b2,off2,rfl,hlb2,hc2⟩:=HF2.out (by omega)
  have d1:wr.cell? ⟨b,off+k*5+1,none⟩=some (.int .i64 x.1.id):=(hb.cell (p:=⟨b,off+k*5+1,none⟩) hlb).trans ((Nat.add_assoc off (k*5) 1).symm▸hc k x hx 1 _ rfl)
  have e0:wr.cell? ⟨b2,off2+k,none⟩=some (.int .i64 x.1.id):=(hb.cell (p:=⟨b2,off2+k,none⟩) hlb2).trans (by
   have h1:=hc2 k x.1.id (by rw[List.getElem?_map,List.getElem?_map,hx];rfl) 0 _ rfl
   simpa using h1)
  replace hlb:b<wr.heap.size:=Nat.lt_of_lt_of_le hlb hb.size;replace hlb2:b2<wr.heap.size:=Nat.lt_of_lt_of_le hlb2 hb.size;have i1:(0:Int)≤(k:Int):=by omega
  have i2:(k:Int)<(l'.length:Int):=by omega
  have qn:(x.1.id !=x.1.id)=false:=by simp
  clear hc hc2 hx hb
  go_upto_region 6 with fail
  refine rg29_6 (w0:=wr) (B:=wr.heap.size) (n:=wr.heap.size) (L:=[]) (by kernel_rfl) rfl (by kernel_rfl) (.t ⟨by go_grown,by go_size,(by simp[go_sem]<;>omega)⟩) (fun w91 K_w91 E_w91 F_w91=> ?_);have _ne:Nonempty (KX (wr.heap.size) wr (wr.heap.size) [] (fun _=>True)):=⟨⟨_,K_w91,E_w91⟩⟩
  repeat (go_big_quiet_step (fail))
  refine wpQuiet_nil ?_;have ra:=rck _ne d1 hlb;have rb:=rck _ne e0 hlb2
  repeat (go_big_quiet_step (fail))
  refine wpQuiet_nil ?_
  repeat (go_big_quiet_step (fail))
  refine wpQuiet_nil ?_;clear ra rb;clear _ne;have KH_w91:=Lib.hid K_w91;have hw_w91:=K_w91.below;have hz_w91:=K_w91.size;clear K_w91;clear E_w91 F_w91;replace HB:=Lib.hid (below_via HB.out KH_w91.out.below);clear d1 e0 hlb hlb2 t1 t1';go_wp2_with fail
  go_roundw
  case rel=>exact⟨k+1,by omega,by go_num,HB.out⟩
  case measure=>simp[intOf];omega
end Go.Proofs.Ytgkgbpapfjjkcaa
namespace Go.Proofs.Ytgkgbpapfjjkcaa
open Go.RowKit Plain
set_option linter.unusedVariables false
set_option linter.unusedSimpArgs false

theorem rg28_1{P:Program}{B n:Nat}{w0:World}{L:List (Nat×Nat×Value)}{E F:World→Prop}{id:Nat}{Q:Exit→Act→World→Prop}{a:Act}{w:World}{A:Array Oper}{o0 o1 o2 o3 o4:Oper}(hm:P.follows .mixedOrders=true)(hA:A=[o0,o1,o2,o3,o4].toArray)(hB:regOk A [2] [4] (.rs [2] (.alt 0 (.alt 1 (.altc 3 (.fs [4] .done) .stop) .stop) .stop))=true)(c:RC B w0 n L E F w)
  (h:∀wk,Kept B w0 n L wk→E wk→F wk→wpQuiet P A (fun w' =>∃s:KX B w0 n L E,w' =s.val) (fun a0=>((∀K1:Act→World→Prop,(∀a1 w1,((∀K2:Act→World→Prop,(∀a2 w2,((∀K3:Act→World→Prop,(∀a3 w3,wpQuiet P A (fun _=>True) (fun a4=>Q .normal a4 w3) [o4] a3→K3 a3 w3)→wpList P A (fun e a3 w3=>e= .normal∧K3 a3 w3) [o3] a2 w2)∧True)→K2 a2 w2)→wpList P A (fun e a2 w2=>e= .normal∧(∃s:KX B w0 n L E,w2=s.val)∧K2 a2 w2) [o1] a1 w1)∧True)→K1 a1 w1)→wpList P A (fun e a1 w1=>e= .normal∧(∃s:KX B w0 n L E,w1=s.val)∧K1 a1 w1) [o0] a0 wk)∧True)) [o2] a):(Code.region id A true).wp P Q a w:=by
 subst hA;exact wp_reg _ _ _ hm hB c (fun wk k e f=>have g:=h wk k e f;Scr.of_rs _ _ rfl g fun _ g=>(Scr.of_alt rfl (g.1 _ fun _ _ g=>g) (fun _ _ g=>(Scr.of_alt rfl (g.1 _ fun _ _ g=>g) (fun _ _ g=>(Scr.of_altc rfl (g.1 _ fun _ _ g=>g) (fun _ _ g=>Scr.of_fs _ _ rfl g fun _ g=>g) trivial)) trivial)) trivial))
/-- the triggers of a happening on the examples' board -/
def Plain.hapE(wh id pl:Int):List It:=exB.ob.flatMap (fun o=>if abt exB wh id pl o then ofI [1,3] o wh else [])
theorem exCd:∀o∈exB.ob,o.cd=0:=by
 rw[exB_ob];intro o ho;simp at ho
 rcases ho with rfl|rfl|rfl<;>rfl
theorem hapE_eq{cs:List (Cd×List (Int×Nat))}(h:whens (cardX cs 0)=[1,3])(wh id pl:Int):hapK cs exB wh id pl exB.ob=hapE wh id pl:=by
 unfold hapK hapE
 have key:∀l:List Ob,(∀o∈l,o.cd=0)→l.flatMap (fun o=>if abt exB wh id pl o then trO cs wh o else [])=l.flatMap (fun o=>if abt exB wh id pl o then ofI [1,3] o wh else []):=by
  intro l
  induction l with
  |nil=>intro _;rfl
  |cons a l ih=>
   intro h1;rw[List.flatMap_cons,List.flatMap_cons,ih (fun o ho=>h1 o (by simp[ho]))];have e:trO cs wh a=ofI [1,3] a wh:=by unfold trO;rw[h1 a (by simp),h]
   rw[e]
 exact key _ exCd
theorem ofK_tg(ws:List Int)(o:Ob)(wh:Int):∀k,∀x∈ofK ws o wh k,x.tg=[]
 |0,x,h=>by cases h
 |k+1,x,h=>by
  rw[ofK] at h
  rcases List.mem_append.1 h with h|h
  ·exact ofK_tg ws o wh k x h
  ·split at h
   ·rw[List.mem_singleton.1 h]
    rfl
   ·cases h
theorem hapE_tg(wh id pl:Int):∀x∈hapE wh id pl,x.tg=[]:=by
 intro x hx;unfold hapE at hx
 obtain⟨o,_,h⟩:=List.mem_flatMap.1 hx
 split at h
 ·exact ofK_tg _ _ _ _ x h
 ·cases h
theorem PoR.below{w w':World}{v:Value}{cs:List (Cd×List (Int×Nat))}(h:PoR w v cs)(hb:Below w.heap.size w w'):PoR w' v cs:=⟨h.1.below hb,h.2⟩
set_option maxRecDepth 100000 in
set_option maxHeartbeats 4000000 in
theorem lgives(wh id pl ix:Int)(u:Value)(ids:List Int)(X:List It)(w:World)(hu:Rw ic 1 w u ids)(hid:Plain.I id)(hX:hapE wh id pl=X)(hm:X.map It.id=ids)(ht:∀x∈X,x.tr=ix)(hn:X.length≤1000):Calls Try.prog 28 #[.agg #[.int .i64 wh,.int .i64 id,.int .i64 pl],.int .i64 ix,u] w fun e w' =>e= .returned (.bool true)∧Below w.heap.size w w':=by
 have HID:=Lib.hid hid;have HU:=Lib.hid hu;have HMI:=Lib.hid hm;have HTR:=Lib.hid ht;have HVE:Hid (VB exB):=Lib.hid exB_vb;have HXQ:Hid (∀x∈X,x.tg=[]):=Lib.hid (hX▸hapE_tg wh id pl);clear hu hid hm ht;have hXE:hapE wh id pl=X:=hX;clear hX;go_enter Try.func28,Try.ntmps28
 go_upto_region 1 with fail
 obtain⟨wz,hwz⟩:∃W,W=(w.alloc (.cells #[.int .i64 wh,.int .i64 id,.int .i64 pl] 37)):=⟨_,rfl⟩
 change Code.wp Try.prog _ _ _ (w.alloc (.cells #[.int .i64 wh,.int .i64 id,.int .i64 pl] 37));rw[←hwz];have hb:Below w.heap.size w wz:=by rw[hwz];exact(Below.refl _ _).alloc (Nat.le_refl _) _
 have HB:=Lib.hid hb;have hlb:w.heap.size<wz.heap.size:=by rw[hwz];simp
 have hro:Ro wz w.heap.size #[.int .i64 wh,.int .i64 id,.int .i64 pl] 37:=by rw[hwz];exact Ro.new _ _ _
 have d0:wz.cell? ⟨w.heap.size,0,none⟩=some (.int .i64 wh):=hro.cell 0;have d1:wz.cell? ⟨w.heap.size,1,none⟩=some (.int .i64 id):=hro.cell 1;have d2:wz.cell? ⟨w.heap.size,2,none⟩=some (.int .i64 pl):=hro.cell 2;clear hwz hb hro;refine rg28_1 (w0:=wz) (B:=wz.heap.size) (n:=wz.heap.size) (L:=[]) (by kernel_rfl) rfl (by kernel_rfl) (.t ⟨by go_grown,by go_size,(by simp[go_sem]<;>omega)⟩) (fun w91 K_w91 E_w91 F_w91=> ?_);have _ne:Nonempty (KX (wz.heap.size) wz (wz.heap.size) [] (fun _=>True)):=⟨⟨_,K_w91,E_w91⟩⟩;have rh0:=rck _ne d0 hlb;have rh1:=rck _ne d1 hlb;have rh2:=rck _ne d2 hlb
 repeat (go_big_quiet_step (fail))
 refine wpQuiet_nil ?_;have KH_w91:=Lib.hid K_w91;have hw_w91:=K_w91.below;have hz_w91:=K_w91.size;clear K_w91;clear E_w91 F_w91
 refine⟨fun K hK0=> ?_,trivial⟩
 have hK:=Lib.hid hK0;clear hK0;go_wp2_with fail
 with_reducible refine(lpool _).mono ?_
 rintro e wp ⟨⟨vp,cs,rfl,hp⟩,hb⟩;have HP:=Lib.hid hp;have HBp:Hid (Below wz.heap.size wz wp):=Lib.hid (below_via KH_w91.out.below hb);clear hp hb;go_wp2_with fail
 first|refine⟨rfl,?u,hK.out _ _ ?_⟩|refine⟨?u,hK.out _ _ ?_⟩
 case u=>exact⟨⟨_,(⟨HBp.out,HBp.out.size,by simp⟩:Kept wz.heap.size wz wz.heap.size [] wp),trivial⟩,rfl⟩
 clear hK K
 refine⟨fun K hK0=> ?_,trivial⟩
 have hK:=Lib.hid hK0;clear hK0;go_wp2_with fail
 with_reducible refine(lexample _).mono ?_
 rintro e we ⟨se,rfl,ho,hb⟩;have HO:=Lib.hid ho.rd;replace HP:=Lib.hid (PoR.below HP.out hb);replace HBp:Hid (Below wz.heap.size wz we):=Lib.hid (below_via HBp.out hb);clear ho hb;go_wp2_with fail
 first|refine⟨rfl,?u,hK.out _ _ ?_⟩|refine⟨?u,hK.out _ _ ?_⟩
 case u=>exact⟨⟨_,(⟨HBp.out,HBp.out.size,by simp⟩:Kept wz.heap.size wz wz.heap.size [] we),trivial⟩,rfl⟩
 clear hK K
 refine⟨fun K hK0=> ?_,trivial⟩
 have hK:=Lib.hid hK0;clear hK0;go_wp2_with fail
 with_reducible refine(hof vp cs se exB wh id pl _ (PoR.cs HP.out) (PoR.lt HP.out) HO.out HVE.out.i HVE.out.sm HID.out HVE.out).mono ?_
 rintro e wx ⟨xa,xc,rfl,hm,hb⟩;have HBY:Hid (Below wz.heap.size wz wx):=Lib.hid (below_via HBp.out hb);rw[hapE_eq (PoR.wh HP.out),hXE] at hm ⊢
 have HM:=Lib.hid (Rw.of_ow hm);clear hm hb;go_wp2_with fail
 first|refine⟨rfl,hK.out _ _ ?_⟩|refine hK.out _ _ ?_
 clear hK K
 repeat (go_big_quiet_step (fail))
 refine wpQuiet_nil ?_;clear rh0 rh1 rh2;clear _ne;clear d0 d1 d2 hlb
 go_upto_region 2 with fail
 go_wp2_with fail
 with_reducible refine(lided _ _ X ids _ (nilI_rd _ _ _ HXQ.out HM.out) (HU.out.below (below_via HB.out HBY.out)) HMI.out hn).mono ?_
 rintro e w9 ⟨rfl,hb⟩;have HBZ:Hid (Below w.heap.size w w9):=Lib.hid (below_via (below_via HB.out HBY.out) hb);have HM2:=Lib.hid (HM.out.below hb);clear hb
 by_cases h0:X.length=0
 ·have t1:((X.length:Int)==0)=true:=by simp[h0]
  have t2:(X.length==0)=true:=by simp[h0]
  go_wp2_with fail
  go_returns
  exact⟨rfl,HBZ.out⟩
 ·have t1:((X.length:Int)==0)=false:=by simp[h0]
  have t2:(X.length==0)=false:=by simp[h0]
  obtain⟨x0,hx0⟩:∃x,X[0]? =some x:=⟨_,List.getElem?_eq_getElem (by omega)⟩
  obtain⟨x1,hx1⟩:∃x,X[X.length-1]? =some x:=⟨_,List.getElem?_eq_getElem (by omega)⟩
  obtain⟨hq,a9,c9,hv9,hf9⟩:=HM2.out.form
  rw[List.length_map] at hv9 hf9 hq
  simp only[Value.slice.injEq] at hv9
  obtain⟨rfl,hz9,rfl⟩:=hv9
  obtain⟨b,off,rfl,hlb,hc⟩:=hf9 (by omega)
  have d0:w9.cell? ⟨b,off+3,none⟩=some (.int .i64 ix):=by
   have h1:=hc 0 (nilI x0) (by rw[List.getElem?_map,hx0];rfl) 3 (.int .i64 x0.tr) rfl;rw[HTR.out _ (List.mem_of_getElem? hx0)] at h1
   simpa using h1
  have d1:w9.cell? ⟨b,off+(X.length-1)*5+3,none⟩=some (.int .i64 ix):=by
   have h1:=hc (X.length-1) (nilI x1) (by rw[List.getElem?_map,hx1];rfl) 3 (.int .i64 x1.tr) rfl;rw[HTR.out _ (List.mem_of_getElem? hx1)] at h1
   rw[Nat.add_assoc];exact h1
  have e1:wrap64 ((X.length:Int)-1)=(X.length-1:Nat):=by unfold wrap64;omega
  have i1:(0:Int)≤((X.length-1:Nat):Int):=by omega
  have i2:((X.length-1:Nat):Int)<(X.length:Int):=by omega
  have i3:(0:Int)<(X.length:Int):=by omega
  clear hz9 hc hf9 hx0 hx1 hq;go_wp2_with fail
  go_returns
  exact⟨rfl,HBZ.out⟩
end Go.Proofs.Ytgkgbpapfjjkcaa
