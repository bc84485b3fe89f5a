/- Cards, and their copies. -/
import Derived.Test.YtpbepnpnpopmfaaGreatBSm
import Derived.Test.YtpbepnpnpopmfaaGreatBRf
import Derived.Deep.DeepCutAuto
import Derived.LoopTactic
import Derived.Deep.MidRow
open Go.RowKit Go.Proofs.YtpbepnpnpopmfaaGreat
set_option maxRecDepth 100000
set_option maxHeartbeats 4000000
namespace Go.Proofs.YtpbepnpnpopmfaaGreat
open Plain
set_option linter.unusedVariables false
set_option linter.unusedSimpArgs false

structure Cd where
 nm:ByteArray
 kd:Int
 c0:Int
 c1:Int
 c2:Int
 c3:Int
 c4:Int
 mc:Int
 pw:Int
 tg:Int
 kw:Int
 ea:Option Addr
 el:Nat
 ec:Nat
 ta:Option Addr
 tl:Nat
 tc:Nat
 ra:Int
def noCd:Cd:=⟨⟨#[]⟩,0,0,0,0,0,0,0,0,0,0,none,0,0,none,0,0,0⟩
def Cd.cells(c:Cd):List Value:=[.string c.nm,.int .i64 c.kd,.int .i64 c.c0,.int .i64 c.c1,.int .i64 c.c2,.int .i64 c.c3,.int .i64 c.c4,.int .i64 c.mc,.int .i64 c.pw,.int .i64 c.tg,.int .i64 c.kw,.slice c.ea c.el c.ec,.slice c.ta c.tl c.tc,.int .i64 c.ra]
def CRow(w:World)(v:Value)(cs:List Cd):Prop:=
 (cs=[]/\∃a cap,v= .slice a 0 cap)\/
 (cs≠[]/\cs.length<=maxLen/\∃b off cap,v= .slice (some ⟨b,off,none⟩) cs.length cap/\b<w.heap.size/\∀i c,cs[i]? =some c->∀j u,c.cells[j]? =some u->w.cell? ⟨b,off+(i*14+j),none⟩=some u)
theorem CRow.below{w w':World}{v:Value}{cs:List Cd}(h:CRow w v cs)(hb:Below w.heap.size w w'):CRow w' v cs:=by
 rcases h with h|⟨h0,h1,b,off,cap,hv,hlt,hc⟩
 ·exact .inl h
 exact .inr ⟨h0,h1,b,off,cap,hv,Nat.lt_of_lt_of_le hlt hb.size,fun i c hi j u hu=>(hb.cell (p:=⟨b,off+(i*14+j),none⟩) hlt).trans (hc i c hi j u hu)⟩
theorem CRow.form{w:World}{v:Value}{cs:List Cd}(h:CRow w v cs):cs.length<=9223372036854775807/\∃a cap,v= .slice a cs.length cap/\(0<cs.length->∃b off,a=some ⟨b,off,none⟩/\b<w.heap.size/\∀i c,cs[i]? =some c->∀j u,c.cells[j]? =some u->w.cell? ⟨b,off+(i*14+j),none⟩=some u):=by
 rcases h with⟨rfl,a,cap,rfl⟩|⟨h0,h1,b,off,cap,rfl,hlt,hc⟩
 ·exact⟨by simp,a,cap,rfl,fun h=>by simp at h⟩
 exact⟨by unfold maxLen at h1;omega,_,cap,rfl,fun _=>⟨b,off,rfl,hlt,hc⟩⟩
def cardOf(cs:List Cd)(n:Int):Cd:=if n<0 then noCd else cs.getD n.toNat noCd
theorem cardOf_neg{cs:List Cd}{n:Int}(h:n<0):cardOf cs n=noCd:=by unfold cardOf;rw[if_pos h]
theorem cardOf_big{cs:List Cd}{n:Int}(h:(cs.length:Int)<=n):cardOf cs n=noCd:=by
 unfold cardOf;rw[if_neg (by omega),List.getD_eq_getElem?_getD,List.getElem?_eq_none (by omega)]
 rfl
theorem cardOf_at{cs:List Cd}{k:Nat}{c:Cd}(h:cs[k]? =some c):cardOf cs (k:Int)=c:=by
 unfold cardOf;rw[if_neg (by omega),List.getD_eq_getElem?_getD,Int.toNat_natCast,h]
 rfl
set_option maxRecDepth 100000 in
set_option maxHeartbeats 2000000 in
theorem look(v:Value)(cs:List Cd)(o:Ob)(w:World)(hs:CRow w v cs):Calls Tryz.prog 112 #[v,.agg #[.int .i64 o.id,.int .i64 o.cd,.int .i64 o.ow,.int .i64 o.po,.int .i64 o.tg,.int .i64 o.da,.int .i64 o.co,.int .i64 o.pp,.int .i64 o.pt,.bool o.ta,.bool o.si,.bool o.dm]] w fun e w' =>e= .returned (.agg #[.string (cardOf cs o.cd).nm,.int .i64 (cardOf cs o.cd).kd,.int .i64 (cardOf cs o.cd).c0,.int .i64 (cardOf cs o.cd).c1,.int .i64 (cardOf cs o.cd).c2,.int .i64 (cardOf cs o.cd).c3,.int .i64 (cardOf cs o.cd).c4,.int .i64 (cardOf cs o.cd).mc,.int .i64 (cardOf cs o.cd).pw,.int .i64 (cardOf cs o.cd).tg,.int .i64 (cardOf cs o.cd).kw,.slice (cardOf cs o.cd).ea (cardOf cs o.cd).el (cardOf cs o.cd).ec,.slice (cardOf cs o.cd).ta (cardOf cs o.cd).tl (cardOf cs o.cd).tc,.int .i64 (cardOf cs o.cd).ra])/\Below w.heap.size w w':=by
 obtain⟨m1,a1,c1,rfl,f1⟩:=hs.form
 have F1:=Hd f1;clear hs f1
 by_cases h1:o.cd<0
 ·have e1:=Hd (cardOf_neg (cs:=cs) h1)
  go_enter Tryz.func112,Tryz.ntmps112;go_wp2_with fail
  exact bodyPost_ret (v:= .agg #[.string ⟨#[]⟩,.int .i64 0,.int .i64 0,.int .i64 0,.int .i64 0,.int .i64 0,.int .i64 0,.int .i64 0,.int .i64 0,.int .i64 0,.int .i64 0,.slice none 0 0,.slice none 0 0,.int .i64 0]) (by simp[results,Tryz.results112,go_sem]) rfl ⟨by rw[e1.out];rfl,by go_grown⟩
 by_cases h2:(cs.length:Int)<=o.cd
 ·have e1:=Hd (cardOf_big h2)
  go_enter Tryz.func112,Tryz.ntmps112;go_wp2_with fail
  exact bodyPost_ret (v:= .agg #[.string ⟨#[]⟩,.int .i64 0,.int .i64 0,.int .i64 0,.int .i64 0,.int .i64 0,.int .i64 0,.int .i64 0,.int .i64 0,.int .i64 0,.int .i64 0,.slice none 0 0,.slice none 0 0,.int .i64 0]) (by simp[results,Tryz.results112,go_sem]) rfl ⟨by rw[e1.out];rfl,by go_grown⟩
 obtain⟨k,hk⟩:∃k:Nat,o.cd=(k:Int):=⟨o.cd.toNat,by omega⟩
 obtain⟨oid,ocd,oow,opo,otg,oda,oco,opp,opt,ota,osi,odm⟩:=o
 simp only at hk h1 h2
 subst hk;have hlt:k<cs.length:=by omega
 obtain⟨b1,o1,rfl,hb1,hc1⟩:=F1.out (by omega)
 obtain⟨c,hc⟩:∃c,cs[k]? =some c:=⟨cs[k],List.getElem?_eq_getElem hlt⟩
 have e1:=Hd (cardOf_at hc);have x0:w.cell? ⟨b1,o1+k*14,none⟩=some (.string c.nm):=hc1 k c hc 0 _ rfl;have x1:w.cell? ⟨b1,o1+k*14+1,none⟩=some (.int .i64 c.kd):=(Nat.add_assoc o1 (k*14) 1).symm▸hc1 k c hc 1 _ rfl;have x2:w.cell? ⟨b1,o1+k*14+2,none⟩=some (.int .i64 c.c0):=(Nat.add_assoc o1 (k*14) 2).symm▸hc1 k c hc 2 _ rfl;have x3:w.cell? ⟨b1,o1+k*14+3,none⟩=some (.int .i64 c.c1):=(Nat.add_assoc o1 (k*14) 3).symm▸hc1 k c hc 3 _ rfl;have x4:w.cell? ⟨b1,o1+k*14+4,none⟩=some (.int .i64 c.c2):=(Nat.add_assoc o1 (k*14) 4).symm▸hc1 k c hc 4 _ rfl;have x5:w.cell? ⟨b1,o1+k*14+5,none⟩=some (.int .i64 c.c3):=(Nat.add_assoc o1 (k*14) 5).symm▸hc1 k c hc 5 _ rfl;have x6:w.cell? ⟨b1,o1+k*14+6,none⟩=some (.int .i64 c.c4):=(Nat.add_assoc o1 (k*14) 6).symm▸hc1 k c hc 6 _ rfl;have x7:w.cell? ⟨b1,o1+k*14+7,none⟩=some (.int .i64 c.mc):=(Nat.add_assoc o1 (k*14) 7).symm▸hc1 k c hc 7 _ rfl;have x8:w.cell? ⟨b1,o1+k*14+8,none⟩=some (.int .i64 c.pw):=(Nat.add_assoc o1 (k*14) 8).symm▸hc1 k c hc 8 _ rfl;have x9:w.cell? ⟨b1,o1+k*14+9,none⟩=some (.int .i64 c.tg):=(Nat.add_assoc o1 (k*14) 9).symm▸hc1 k c hc 9 _ rfl;have x10:w.cell? ⟨b1,o1+k*14+10,none⟩=some (.int .i64 c.kw):=(Nat.add_assoc o1 (k*14) 10).symm▸hc1 k c hc 10 _ rfl;have x11:w.cell? ⟨b1,o1+k*14+11,none⟩=some (.slice c.ea c.el c.ec):=(Nat.add_assoc o1 (k*14) 11).symm▸hc1 k c hc 11 _ rfl;have x12:w.cell? ⟨b1,o1+k*14+12,none⟩=some (.slice c.ta c.tl c.tc):=(Nat.add_assoc o1 (k*14) 12).symm▸hc1 k c hc 12 _ rfl;have x13:w.cell? ⟨b1,o1+k*14+13,none⟩=some (.int .i64 c.ra):=(Nat.add_assoc o1 (k*14) 13).symm▸hc1 k c hc 13 _ rfl;have n1:b1≠w.heap.size:=by omega
 have n2:b1≠w.heap.size+1:=by omega
 have i2:(k:Int)<(cs.length:Int):=by omega
 have i3:(0:Int)<=(k:Int):=by omega
 have i4:decide ((cs.length:Int)<=(k:Int))=false:=by simpa using h2
 have i5:decide (cs.length<=k)=false:=by simp;omega
 clear hc1 hc h1 h2;go_enter Tryz.func112,Tryz.ntmps112;go_wp2_with fail
 exact bodyPost_ret (v:= .agg #[.string c.nm,.int .i64 c.kd,.int .i64 c.c0,.int .i64 c.c1,.int .i64 c.c2,.int .i64 c.c3,.int .i64 c.c4,.int .i64 c.mc,.int .i64 c.pw,.int .i64 c.tg,.int .i64 c.kw,.slice c.ea c.el c.ec,.slice c.ta c.tl c.tc,.int .i64 c.ra]) (by simp[results,Tryz.results112,go_sem]) rfl ⟨by rw[e1.out],by go_grown⟩
structure Plain.Ef where
 c:Int
 t:Int
 n:Int
 m:Int
 u:Int
def efc(e:Ef):List Value:=[.int .i64 e.c,.int .i64 e.t,.int .i64 e.n,.int .i64 e.m,.int .i64 e.u]
theorem efc_ok:∀z:Ef,(efc z).length=5/\∀u∈efc z,u.oneCell' =true:=fun z=>⟨rfl,fun u hu=>by simp[efc] at hu;rcases hu with rfl|rfl|rfl|rfl|rfl<;>rfl⟩
def trc(t:Int×Sl):List Value:=[.int .i64 t.1,t.2.v]
theorem trc_ok:∀z:Int×Sl,(trc z).length=2/\∀u∈trc z,u.oneCell' =true:=fun z=>⟨rfl,fun u hu=>by simp[trc,Sl.v] at hu;rcases hu with rfl|rfl<;>rfl⟩
theorem trc_len{l:List (Int×Sl)}:∀x∈l,(trc x).length=2:=fun _ _=>rfl
theorem efc_len{l:List Ef}:∀x∈l,(efc x).length=5:=fun _ _=>rfl
theorem infoE:(Tryz.prog.info? 109).map (fun i=>(i.zero,i.size,i.bytes))=some (some (.agg #[.int .i64 0,.int .i64 0,.int .i64 0,.int .i64 0,.int .i64 0]),5,40):=by kernel_rfl
theorem infoR:(Tryz.prog.info? 67).map (fun i=>(i.zero,i.size,i.bytes))=some (some (.agg #[.int .i64 0,.slice none 0 0]),2,32):=by kernel_rfl
theorem cloneE{l:List Ef}(v:Value)(w:World)(hs:Rw efc 5 w v l)(hl:l.length<=1000):Calls Tryz.prog 123 #[v] w (ClA efc 5 109 w l):=by
 have qT:∀(w:World) (a:Option Addr) (n c:Nat),(binOp .eql 61 (.slice a n c) (.slice none 0 0)).run Tryz.prog w= .ok (.bool a.isNone) w:=fun w a n c=>Lib.run_eql_slice_nil w 61 109 a n c 0 0 Tryz.underlying61
 have HS:=Hd hs
 obtain⟨m1,a1,c1,rfl,_⟩:=hs.form
 clear hs
 cases a1 with
 |none=>
  have h0:l=[]:=by
   rcases HS.o with⟨h,_⟩|⟨_,_,_,_,_,h,_⟩
   ·exact h
   cases h
  subst h0;go_enter Tryz.func123,Tryz.ntmps123;go_wp2_with fail
  go_returns;exact ClA.of (Ow.nil _ _ _) (Below.refl _ _)
 |some a1=>
  go_enter Tryz.func123,Tryz.ntmps123;go_wp2_with (at_builtin;refine wpList_append_ow (f:=efc) (sz:=5) rfl _ _ 61 rfl w.heap.size 109 (.agg #[.int .i64 0,.int .i64 0,.int .i64 0,.int .i64 0,.int .i64 0]) 40 Tryz.underlying61 infoE rfl (by decide) _ [] rfl (Ow.lit w 109 [] #[] rfl (by simp) _ (Nat.le_refl _) (by simp)) efc_ok _ l rfl (HS.o.below (by go_grown)) ?c2 ?c3 (by simp) ?_)
  case c2=>simp[maxLen];omega
  case c3=>simp;omega
  intro v' w1 hown hgrow _;have hb1:Below w.heap.size w w1:=((Below.refl _ w).alloc (Nat.le_refl _) _).grown hgrow (by simp) (fun k hk=>by simp[Value.ownBlock] at hk;omega)
  obtain⟨a',c',rfl⟩:=hown.form
  have HO:Hid (Ow efc 5 109 w1 w.heap.size (.slice a' ([]++l).length c') l):=Hd hown;clear hown hgrow;go_wp2_with fail
  go_returns;exact ClA.of HO.o hb1
theorem cloneR{l:List (Int×Sl)}(v:Value)(w:World)(hs:Rw trc 2 w v l)(hl:l.length<=1000):Calls Tryz.prog 124 #[v] w (ClA trc 2 67 w l):=by
 have qT:∀(w:World) (a:Option Addr) (n c:Nat),(binOp .eql 62 (.slice a n c) (.slice none 0 0)).run Tryz.prog w= .ok (.bool a.isNone) w:=fun w a n c=>Lib.run_eql_slice_nil w 62 67 a n c 0 0 Tryz.underlying62
 have HS:=Hd hs
 obtain⟨m1,a1,c1,rfl,_⟩:=hs.form
 clear hs
 cases a1 with
 |none=>
  have h0:l=[]:=by
   rcases HS.o with⟨h,_⟩|⟨_,_,_,_,_,h,_⟩
   ·exact h
   cases h
  subst h0;go_enter Tryz.func124,Tryz.ntmps124;go_wp2_with fail
  go_returns;exact ClA.of (Ow.nil _ _ _) (Below.refl _ _)
 |some a1=>
  go_enter Tryz.func124,Tryz.ntmps124;go_wp2_with (at_builtin;refine wpList_append_ow (f:=trc) (sz:=2) rfl _ _ 62 rfl w.heap.size 67 (.agg #[.int .i64 0,.slice none 0 0]) 32 Tryz.underlying62 infoR rfl (by decide) _ [] rfl (Ow.lit w 67 [] #[] rfl (by simp) _ (Nat.le_refl _) (by simp)) trc_ok _ l rfl (HS.o.below (by go_grown)) ?c2 ?c3 (by simp) ?_)
  case c2=>simp[maxLen];omega
  case c3=>simp;omega
  intro v' w1 hown hgrow _;have hb1:Below w.heap.size w w1:=((Below.refl _ w).alloc (Nat.le_refl _) _).grown hgrow (by simp) (fun k hk=>by simp[Value.ownBlock] at hk;omega)
  obtain⟨a',c',rfl⟩:=hown.form
  have HO:Hid (Ow trc 2 67 w1 w.heap.size (.slice a' ([]++l).length c') l):=Hd hown;clear hown hgrow;go_wp2_with fail
  go_returns;exact ClA.of HO.o hb1
theorem rg120_1{P:Program}{B n:Nat}{w0:World}{L:List (Nat×Nat×Value)}{E F:World->Prop}{id:Nat}{Q:Exit->Act->World->Prop}{a:Act}{w:World}{A:Array Oper}{o0 o1 o2 o3 o4 o5 o6 o7 o8 o9:Oper}(hm:P.follows .mixedOrders=true)(hA:A=[o0,o1,o2,o3,o4,o5,o6,o7,o8,o9].toArray)(hB:regOk A [1,4] [0,3,6,8] (.fs [0,3] (.rs [1,4] (.alt 2 (.fs [6] (.altc 5 (.altc 7 (.fs [8] (.altc 9 .done .stop)) .stop) .stop)) .stop)))=true)(c:RC B w0 n L E F w)
  (h:∀wk,Kept B w0 n L wk->E wk->F wk->wpQuiet P A (fun _=>True) (fun a0=>wpQuiet P A (fun w' =>∃s:KX B w0 n L E,w' =s.val) (fun a1=>((∀K2:Act->World->Prop,(∀a2 w2,wpQuiet P A (fun _=>True) (fun a3=>((∀K4:Act->World->Prop,(∀a4 w4,((∀K5:Act->World->Prop,(∀a5 w5,wpQuiet P A (fun _=>True) (fun a6=>((∀K7:Act->World->Prop,(∀a7 w7,Q .normal a7 w7->K7 a7 w7)->wpList P A (fun e a7 w7=>e= .normal/\K7 a7 w7) [o9] a6 w5)/\True)) [o8] a5->K5 a5 w5)->wpList P A (fun e a5 w5=>e= .normal/\K5 a5 w5) [o7] a4 w4)/\True)->K4 a4 w4)->wpList P A (fun e a4 w4=>e= .normal/\K4 a4 w4) [o5] a3 w2)/\True)) [o6] a2->K2 a2 w2)->wpList P A (fun e a2 w2=>e= .normal/\(∃s:KX B w0 n L E,w2=s.val)/\K2 a2 w2) [o2] a1 wk)/\True)) [o1,o4] a0) [o0,o3] a):(Code.region id A true).wp P Q a w:=by
 subst hA;exact wp_reg _ _ _ hm hB c (fun wk k e f=>have g:=h wk k e f;Scr.of_fs _ _ rfl g fun _ g=>Scr.of_rs _ _ rfl g fun _ g=>(Scr.of_alt rfl (g.1 _ fun _ _ g=>g) (fun _ _ g=>Scr.of_fs _ _ rfl g fun _ g=>(Scr.of_altc rfl (g.1 _ fun _ _ g=>g) (fun _ _ g=>(Scr.of_altc rfl (g.1 _ fun _ _ g=>g) (fun _ _ g=>Scr.of_fs _ _ rfl g fun _ g=>(Scr.of_altc rfl (g.1 _ fun _ _ g=>g) (fun _ _ g=>g) trivial)) trivial)) trivial)) trivial))
theorem rg120_5{P:Program}{B n:Nat}{w0:World}{L:List (Nat×Nat×Value)}{E F:World->Prop}{id:Nat}{Q:Exit->Act->World->Prop}{a:Act}{w:World}{A:Array Oper}{o0 o1 o2 o3 o4 o5 o6 o7 o8:Oper}(hm:P.follows .mixedOrders=true)(hA:A=[o0,o1,o2,o3,o4,o5,o6,o7,o8].toArray)(hB:regOk A [1,4] [0,2,3,6,7] (.fs [0,2,3] (.rs [1,4] (.alt 5 (.fs [6,7] (.altc 8 .done .stop)) .stop)))=true)(c:RC B w0 n L E F w)
  (h:∀wk,Kept B w0 n L wk->E wk->F wk->wpQuiet P A (fun _=>True) (fun a0=>wpQuiet P A (fun w' =>∃s:KX B w0 n L E,w' =s.val) (fun a1=>((∀K2:Act->World->Prop,(∀a2 w2,wpQuiet P A (fun _=>True) (fun a3=>((∀K4:Act->World->Prop,(∀a4 w4,Q .normal a4 w4->K4 a4 w4)->wpList P A (fun e a4 w4=>e= .normal/\K4 a4 w4) [o8] a3 w2)/\True)) [o6,o7] a2->K2 a2 w2)->wpList P A (fun e a2 w2=>e= .normal/\(∃s:KX B w0 n L E,w2=s.val)/\K2 a2 w2) [o5] a1 wk)/\True)) [o1,o4] a0) [o0,o2,o3] a):(Code.region id A true).wp P Q a w:=by
 subst hA;exact wp_reg _ _ _ hm hB c (fun wk k e f=>have g:=h wk k e f;Scr.of_fs _ _ rfl g fun _ g=>Scr.of_rs _ _ rfl g fun _ g=>(Scr.of_alt rfl (g.1 _ fun _ _ g=>g) (fun _ _ g=>Scr.of_fs _ _ rfl g fun _ g=>(Scr.of_altc rfl (g.1 _ fun _ _ g=>g) (fun _ _ g=>g) trivial)) trivial))
theorem cd_one(c:Cd):(c.cells.toArray.all fun x=>x.oneCell')=true:=by first|kernel_rfl|simp[Cd.cells,Value.oneCell']
theorem wpList_load_cd{ops:Array Oper}{rest:List Oper}{op:Oper}{a:Act}{w:World}{Q:Exit->Act->World->Prop}{P:Nat}(c:Cd)(x:Operand)(ho:op.op= .load 64 x)(hx:a.eval x= .pointer (some ⟨P,0,none⟩))(h:Ro w P c.cells.toArray 64)(hw:Region.wanted op (yielded ops a.tmps)=true)
  (hK:wpList Tryz.prog ops Q rest (a.put op.dst (.agg c.cells.toArray)) w):wpList Tryz.prog ops Q (op::rest) a w:=by
 unfold wpList;rw[if_pos hw];exact .inl (wp_load_mid 64 x ho P 0 hx c.cells _ (fun j u hu=>by rw[Nat.zero_add];exact(h.cell j).trans (by simpa using hu)) Tryz.underlying64 rfl (by kernel_rfl) hK)
theorem wpList_store_cd{ops:Array Oper}{rest:List Oper}{op:Oper}{a:Act}{w:World}{Q:Exit->Act->World->Prop}(hgd:op.guard=none){P:Nat}(c:Cd)(x y:Operand)(ho:op.op= .store 64 x y)(hx:a.eval x= .pointer (some ⟨P,0,none⟩))(hy:a.eval y= .agg c.cells.toArray){old:Array Value}(hg:w.heap[P]? =some (.cells old 64 (0,0)))(hsz:old.size=14)
  (hK:∀w',Hid (w' =w.setRow P c.cells.toArray)->wpList Tryz.prog ops Q rest (a.put op.dst undef) w'):wpList Tryz.prog ops Q (op::rest) a w:=
 wpList_store_row hgd 64 x y ho P c.cells.toArray hx hy 64 old hg (by kernel_rfl) (by rw[hsz];rfl) (cd_one c) (hK _ (Hd rfl))
theorem Ro.row{w:World}{P:Nat}{old:Array Value}{t:TypeId}(hg:w.heap[P]? =some (.cells old t (0,0)))(cs:Array Value):Ro (w.setRow P cs) P cs t:=setRow_heap _ P old _ t _ hg
theorem results_cd{fn:Func}{p:Tmp}(h:fn.results= #[.cell p 64])(tmps:Array Value)(w:World){P:Nat}(c:Cd)(hx:Ro w P c.cells.toArray 64)(hp:tmps.getD p undef= .pointer (some ⟨P,0,none⟩)):(results fn tmps).run Tryz.prog w= .ok (.agg c.cells.toArray) w:=
 results_cell_row h tmps w P 64 _ (0,0) _ hp hx Tryz.underlying64 rfl (by kernel_rfl)
theorem map_setR(m:List (Int×Sl))(i:Nat)(x:Int×Sl)(y:Sl)(h:m[i]? =some x):(m.set i (x.1,y)).map Prod.fst=m.map Prod.fst:=map_set_fst m i x y h
def CcL(w:World)(c:Cd)(ef:List Ef)(ts:List (Int×Sl))(ea:Option Addr)(ec:Nat)(ta:Option Addr)(tc:Nat)(i:Value)(wr:World):Prop:=∃(k:Nat) (m:List (Int×Sl)),k<=ts.length/\i= .int .i64 k/\Below w.heap.size w wr/\m.map Prod.fst=ts.map Prod.fst/\Ro wr w.heap.size #[.string c.nm,.int .i64 c.kd,.int .i64 c.c0,.int .i64 c.c1,.int .i64 c.c2,.int .i64 c.c3,.int .i64 c.c4,.int .i64 c.mc,.int .i64 c.pw,.int .i64 c.tg,.int .i64 c.kw,.slice ea ef.length ec,.slice ta ts.length tc,.int .i64 c.ra] 64/\Ro wr (w.heap.size+1) #[.string ⟨#[]⟩,.int .i64 0,.int .i64 0,.int .i64 0,.int .i64 0,.int .i64 0,.int .i64 0,.int .i64 0,.int .i64 0,.int .i64 0,.int .i64 0,.slice none 0 0,.slice none 0 0,.int .i64 0] 64/\Ox trc 2 67 w.heap.size wr.heap.size wr (.slice ta ts.length tc) m/\∀j,k<=j->m[j]? =ts[j]?
theorem ccopy(c:Cd)(ef:List Ef)(ts:List (Int×Sl))(w:World)(he:Rw efc 5 w (.slice c.ea ef.length c.ec) ef)(hel:ef.length<=1000)(ht:Rw trc 2 w (.slice c.ta ts.length c.tc) ts)(htl:ts.length<=1000)(hte:∀t∈ts,∃l:List Ef,Rw efc 5 w t.2.v l/\l.length<=1000):Calls Tryz.prog 120 #[.agg #[.string c.nm,.int .i64 c.kd,.int .i64 c.c0,.int .i64 c.c1,.int .i64 c.c2,.int .i64 c.c3,.int .i64 c.c4,.int .i64 c.mc,.int .i64 c.pw,.int .i64 c.tg,.int .i64 c.kw,.slice c.ea ef.length c.ec,.slice c.ta ts.length c.tc,.int .i64 c.ra]] w fun e w' =>∃ea' ec' ta' tc' m,e= .returned (.agg #[.string c.nm,.int .i64 c.kd,.int .i64 c.c0,.int .i64 c.c1,.int .i64 c.c2,.int .i64 c.c3,.int .i64 c.c4,.int .i64 c.mc,.int .i64 c.pw,.int .i64 c.tg,.int .i64 c.kw,.slice ea' ef.length ec',.slice ta' ts.length tc',.int .i64 c.ra])/\Rw trc 2 w' (.slice ta' ts.length tc') m/\m.map Prod.fst=ts.map Prod.fst/\(∀b,(Value.slice ta' ts.length tc').ownBlock=some b->w.heap.size<=b)/\Below w.heap.size w w':=by
 have HE:=Hd he;have HT:=Hd ht;have HTE:=Hd hte;have HEL:=Hd hel;have HTL:=Hd htl;clear he ht hte;go_enter Tryz.func120,Tryz.ntmps120
 go_upto_region 1 with fail
 change Code.wp Tryz.prog _ _ _ ((w.alloc (.cells #[.string c.nm,.int .i64 c.kd,.int .i64 c.c0,.int .i64 c.c1,.int .i64 c.c2,.int .i64 c.c3,.int .i64 c.c4,.int .i64 c.mc,.int .i64 c.pw,.int .i64 c.tg,.int .i64 c.kw,.slice c.ea ef.length c.ec,.slice c.ta ts.length c.tc,.int .i64 c.ra] 64)).alloc (.cells #[.string ⟨#[]⟩,.int .i64 0,.int .i64 0,.int .i64 0,.int .i64 0,.int .i64 0,.int .i64 0,.int .i64 0,.int .i64 0,.int .i64 0,.int .i64 0,.slice none 0 0,.slice none 0 0,.int .i64 0] 64))
 obtain⟨wz,hwz⟩:∃W,W=(w.alloc (.cells #[.string c.nm,.int .i64 c.kd,.int .i64 c.c0,.int .i64 c.c1,.int .i64 c.c2,.int .i64 c.c3,.int .i64 c.c4,.int .i64 c.mc,.int .i64 c.pw,.int .i64 c.tg,.int .i64 c.kw,.slice c.ea ef.length c.ec,.slice c.ta ts.length c.tc,.int .i64 c.ra] 64)).alloc (.cells #[.string ⟨#[]⟩,.int .i64 0,.int .i64 0,.int .i64 0,.int .i64 0,.int .i64 0,.int .i64 0,.int .i64 0,.int .i64 0,.int .i64 0,.int .i64 0,.slice none 0 0,.slice none 0 0,.int .i64 0] 64):=⟨_,rfl⟩
 have hsz:wz.heap.size=w.heap.size+1+1:=by rw[hwz];simp
 have b1:Below w.heap.size w (w.alloc (.cells #[.string c.nm,.int .i64 c.kd,.int .i64 c.c0,.int .i64 c.c1,.int .i64 c.c2,.int .i64 c.c3,.int .i64 c.c4,.int .i64 c.mc,.int .i64 c.pw,.int .i64 c.tg,.int .i64 c.kw,.slice c.ea ef.length c.ec,.slice c.ta ts.length c.tc,.int .i64 c.ra] 64)):=(Below.refl _ _).alloc (Nat.le_refl _) _;have b2:Below (w.alloc (.cells #[.string c.nm,.int .i64 c.kd,.int .i64 c.c0,.int .i64 c.c1,.int .i64 c.c2,.int .i64 c.c3,.int .i64 c.c4,.int .i64 c.mc,.int .i64 c.pw,.int .i64 c.tg,.int .i64 c.kw,.slice c.ea ef.length c.ec,.slice c.ta ts.length c.tc,.int .i64 c.ra] 64)).heap.size (w.alloc (.cells #[.string c.nm,.int .i64 c.kd,.int .i64 c.c0,.int .i64 c.c1,.int .i64 c.c2,.int .i64 c.c3,.int .i64 c.c4,.int .i64 c.mc,.int .i64 c.pw,.int .i64 c.tg,.int .i64 c.kw,.slice c.ea ef.length c.ec,.slice c.ta ts.length c.tc,.int .i64 c.ra] 64)) wz:=by rw[hwz];exact(Below.refl _ _).alloc (Nat.le_refl _) _
 have HX:Hid (Ro wz w.heap.size #[.string c.nm,.int .i64 c.kd,.int .i64 c.c0,.int .i64 c.c1,.int .i64 c.c2,.int .i64 c.c3,.int .i64 c.c4,.int .i64 c.mc,.int .i64 c.pw,.int .i64 c.tg,.int .i64 c.kw,.slice c.ea ef.length c.ec,.slice c.ta ts.length c.tc,.int .i64 c.ra] 64):=Hd ((Ro.new _ _ _).below b2);have HZ:Hid (Ro wz (w.heap.size+1) #[.string ⟨#[]⟩,.int .i64 0,.int .i64 0,.int .i64 0,.int .i64 0,.int .i64 0,.int .i64 0,.int .i64 0,.int .i64 0,.int .i64 0,.int .i64 0,.slice none 0 0,.slice none 0 0,.int .i64 0] 64):=Hd (by rw[hwz,show w.heap.size+1=(w.alloc (.cells #[.string c.nm,.int .i64 c.kd,.int .i64 c.c0,.int .i64 c.c1,.int .i64 c.c2,.int .i64 c.c3,.int .i64 c.c4,.int .i64 c.mc,.int .i64 c.pw,.int .i64 c.tg,.int .i64 c.kw,.slice c.ea ef.length c.ec,.slice c.ta ts.length c.tc,.int .i64 c.ra] 64)).heap.size by simp];exact heap_alloc_new _ _);have HB:Hid (Below w.heap.size w wz):=Hd (below_via b1 b2);rw[<-hwz];clear hwz b1 b2;refine rg120_1 (w0:=wz) (B:=wz.heap.size) (n:=wz.heap.size) (L:=[]) (E:=fun W=>Ro W w.heap.size #[.string c.nm,.int .i64 c.kd,.int .i64 c.c0,.int .i64 c.c1,.int .i64 c.c2,.int .i64 c.c3,.int .i64 c.c4,.int .i64 c.mc,.int .i64 c.pw,.int .i64 c.tg,.int .i64 c.kw,.slice c.ea ef.length c.ec,.slice c.ta ts.length c.tc,.int .i64 c.ra] 64) (F:=fun _=>True) (by kernel_rfl) rfl (by kernel_rfl) ⟨⟨by go_grown,by go_size,(by simp[go_sem]<;>omega)⟩,HX.o,fun _ _ h hb=>h.below hb,trivial,fun _ _ _ _=>trivial⟩ (fun w1 K_w1 E_w1 F_w1=> ?_);have _ne:Nonempty (KX (wz.heap.size) wz (wz.heap.size) [] (fun W=>Ro W w.heap.size #[.string c.nm,.int .i64 c.kd,.int .i64 c.c0,.int .i64 c.c1,.int .i64 c.c2,.int .i64 c.c3,.int .i64 c.c4,.int .i64 c.mc,.int .i64 c.pw,.int .i64 c.tg,.int .i64 c.kw,.slice c.ea ef.length c.ec,.slice c.ta ts.length c.tc,.int .i64 c.ra] 64)):=⟨⟨_,K_w1,E_w1⟩⟩
 repeat (go_big_quiet_step (fail))
 refine wpQuiet_nil ?_;have ra:∀s:KX (wz.heap.size) wz (wz.heap.size) [] (fun W=>Ro W w.heap.size #[.string c.nm,.int .i64 c.kd,.int .i64 c.c0,.int .i64 c.c1,.int .i64 c.c2,.int .i64 c.c3,.int .i64 c.c4,.int .i64 c.mc,.int .i64 c.pw,.int .i64 c.tg,.int .i64 c.kw,.slice c.ea ef.length c.ec,.slice c.ta ts.length c.tc,.int .i64 c.ra] 64),s.val.cell? ⟨w.heap.size,11,none⟩=some (.slice c.ea ef.length c.ec):=fun s=>s.ex.cell 11
 have rb:∀s:KX (wz.heap.size) wz (wz.heap.size) [] (fun W=>Ro W w.heap.size #[.string c.nm,.int .i64 c.kd,.int .i64 c.c0,.int .i64 c.c1,.int .i64 c.c2,.int .i64 c.c3,.int .i64 c.c4,.int .i64 c.mc,.int .i64 c.pw,.int .i64 c.tg,.int .i64 c.kw,.slice c.ea ef.length c.ec,.slice c.ta ts.length c.tc,.int .i64 c.ra] 64),s.val.cell? ⟨w.heap.size,12,none⟩=some (.slice c.ta ts.length c.tc):=fun s=>s.ex.cell 12
 repeat (go_big_quiet_step (fail))
 refine wpQuiet_nil ?_;have KH_w1:=Hd K_w1;have hw_w1:=K_w1.below;have hz_w1:=K_w1.size;clear K_w1;clear E_w1 F_w1
 refine⟨fun K hK0=> ?_,trivial⟩
 have hK:=Hd hK0;clear hK0;replace HX:=Hd (HX.o.below hw_w1);replace HZ:=Hd (HZ.o.below hw_w1);replace HB:=Hd (below_via HB.o hw_w1);have HK:=KH_w1;have hz0_w1:=hw_w1.size;clear hw_w1 hz_w1 KH_w1;go_wp2_with fail
 with_reducible refine(cloneE _ _ (HE.o.below HB.o) HEL.o).mono ?_
 rintro e w2 ⟨ea',ec',rfl,ho,hb⟩;have HOe:=Hd ho;replace HK:=Hd (Kept.step HK.o (Nat.le_refl _) hb);have hz0_w2:=hb.size;replace HX:=Hd (HX.o.below hb);replace HZ:=Hd (HZ.o.below hb);replace HB:=Hd (below_via HB.o hb);clear ho hb;go_wp2_with fail
 first|refine⟨rfl,?u,hK.o _ _ ?_⟩|refine⟨?u,hK.o _ _ ?_⟩
 case u=>exact⟨⟨_,HK.o,HX.o⟩,rfl⟩
 clear hK K
 repeat (go_big_quiet_step (fail))
 refine wpQuiet_nil ?_
 refine⟨fun K hK0=> ?_,trivial⟩
 have hK:=Hd hK0;clear hK0;go_wp2_with fail
 with_reducible refine(cloneR _ _ (HT.o.below HB.o) HTL.o).mono ?_
 rintro e w3 ⟨ta',tc',rfl,ho,hb⟩;have HOt:=Hd ho;replace HK:=Hd (Kept.step HK.o (Nat.le_refl _) hb);have hz0_w3:=hb.size;replace HOe:=Hd (HOe.o.below hb);replace HX:=Hd (HX.o.below hb);replace HZ:=Hd (HZ.o.below hb);replace HB:=Hd (below_via HB.o hb);clear ho hb;go_wp2_with fail
 first|refine⟨rfl,hK.o _ _ ?_⟩|refine hK.o _ _ ?_
 clear hK K
 refine⟨fun K hK0=> ?_,trivial⟩
 have hK:=Hd hK0;clear hK0;have HN:Hid (Onl [w.heap.size] w3 w3):=Hd (Onl.refl _ _);have c_:=HX.o.cell 11;have f_:=HX.o.free 11;change w3.cell? ⟨w.heap.size,11,none⟩=some (.slice _ _ _) at c_
 go_wp2_with fail
 obtain⟨w4,hw4⟩:∃W,W=w3.setCell ⟨w.heap.size,11,none⟩ (.slice ea' ef.length ec'):=⟨_,rfl⟩
 rw[<-hw4];replace HX:Hid (Ro w4 w.heap.size #[.string c.nm,.int .i64 c.kd,.int .i64 c.c0,.int .i64 c.c1,.int .i64 c.c2,.int .i64 c.c3,.int .i64 c.c4,.int .i64 c.mc,.int .i64 c.pw,.int .i64 c.tg,.int .i64 c.kw,.slice ea' ef.length ec',.slice c.ta ts.length c.tc,.int .i64 c.ra] 64):=Hd (by rw[hw4];exact heap_setCell_same _ _ 11 _ 64 _ HX.o);replace HN:Hid (Onl [w.heap.size] w3 w4):=Hd (by rw[hw4];exact HN.o.setCell (.inl (by simp)) _);clear c_ f_ hw4
 first|refine⟨rfl,hK.o _ _ ?_⟩|refine hK.o _ _ ?_
 clear hK K
 repeat (go_big_quiet_step (fail))
 refine wpQuiet_nil ?_
 refine⟨fun K hK0=> ?_,trivial⟩
 have hK:=Hd hK0;clear hK0;have c_:=HX.o.cell 12;have f_:=HX.o.free 12;change w4.cell? ⟨w.heap.size,12,none⟩=some (.slice _ _ _) at c_
 go_wp2_with fail
 obtain⟨w5,hw5⟩:∃W,W=w4.setCell ⟨w.heap.size,12,none⟩ (.slice ta' ts.length tc'):=⟨_,rfl⟩
 rw[<-hw5];replace HX:Hid (Ro w5 w.heap.size #[.string c.nm,.int .i64 c.kd,.int .i64 c.c0,.int .i64 c.c1,.int .i64 c.c2,.int .i64 c.c3,.int .i64 c.c4,.int .i64 c.mc,.int .i64 c.pw,.int .i64 c.tg,.int .i64 c.kw,.slice ea' ef.length ec',.slice ta' ts.length tc',.int .i64 c.ra] 64):=Hd (by rw[hw5];exact heap_setCell_same _ _ 12 _ 64 _ HX.o);replace HN:Hid (Onl [w.heap.size] w3 w5):=Hd (by rw[hw5];exact HN.o.setCell (.inl (by simp)) _);clear c_ f_ hw5
 first|refine⟨rfl,hK.o _ _ ?_⟩|refine hK.o _ _ ?_
 clear hK K;clear ra rb;clear _ne;have hzs:w3.heap.size<=w5.heap.size:=HN.o.size;replace HOt:=Hd (HOt.o.out HN.o (lo':=w.heap.size+1+1) (hi':=w5.heap.size) (by omega) (by omega) (by omega));replace HZ:Hid (Ro w5 (w.heap.size+1) #[.string ⟨#[]⟩,.int .i64 0,.int .i64 0,.int .i64 0,.int .i64 0,.int .i64 0,.int .i64 0,.int .i64 0,.int .i64 0,.int .i64 0,.int .i64 0,.slice none 0 0,.slice none 0 0,.int .i64 0] 64):=Hd ((HN.o.block _ HZ.o.lt (by simp)).trans HZ.o);replace HB:=Hd (belowOnl HB.o HN.o (by simp) HB.o.size);clear HN HK HOe;have d12:w5.cell? ⟨w.heap.size,12,none⟩=some (.slice ta' ts.length tc'):=HX.o.cell 12;go_wp2_with fail
 clear d12
 go_loopw [16] (fun i wr=>CcL w c ef ts ea' ec' ta' tc' i wr) (fun i _=>ts.length-(intOf i).toNat)
 case atStart=>exact⟨0,ts,by omega,rfl,HB.o,rfl,HX.o,HZ.o,HOt.o.mono (by omega) (Nat.le_refl _),fun _ _=>rfl⟩
 obtain⟨k,m,hk,rfl,hb,hm,hx,hz,ho,hu⟩:=hrel
 replace HB:=Hd hb;replace HX:=Hd hx;replace HZ:=Hd hz;have HM:=Hd hm;have HO:=Hd ho;have HU:=Hd hu;have hml:m.length=ts.length:=by have:=congrArg List.length hm;simpa using this
 have HML:=Hd hml;clear hb hm hx hz ho hu hml HOt
 by_cases hkl:k<ts.length
 ·obtain⟨y,hy⟩:∃y,m[k]? =some y:=⟨_,List.getElem?_eq_getElem (by have:=HML.o;omega)⟩
  have hyl:ts[k]? =some y:=by rw[<-HU.o k (Nat.le_refl _)];exact hy
  obtain⟨el,hel,hll⟩:=HTE.o y (List.mem_of_getElem? hyl)
  obtain⟨g,cap,hv,hg1,hg2,hg3⟩:=HO.o.pos (by have:=HML.o;omega)
  simp only[Value.slice.injEq] at hv
  obtain⟨rfl,hx0,rfl⟩:=hv
  clear hx0
  obtain⟨x,⟨sa,sn,sc⟩⟩:=y
  have hsn:sn=el.length:=Rw.length (show Rw efc 5 w (.slice sa sn sc) el from hel);subst hsn;have HEL2:Hid (Rw efc 5 w (.slice sa el.length sc) el/\el.length<=1000):=Hd ⟨hel,hll⟩;have d0:wr.cell? ⟨g,k*2,none⟩=some (.int .i64 x):=(HO.o.at trc_len hy (j:=0) (u:= .int .i64 x) rfl (k*2) (by omega)).1;have d1:wr.cell? ⟨g,k*2+1,none⟩=some (.slice sa el.length sc):=(HO.o.at trc_len hy (j:=1) (u:= .slice sa el.length sc) rfl (k*2+1) rfl).1;have i1:(0:Int)<=(k:Int):=by omega
  have i2:(k:Int)<(ts.length:Int):=by omega
  have HY:=Hd hy;have HG:Hid (w.heap.size<=g/\g<wr.heap.size):=Hd ⟨by have:=hg1;omega,hg3⟩;clear hy hyl hg1 hg2 hel hll
  go_upto_region 5 with fail
  obtain⟨w20,hw2⟩:∃W,W=wr.alloc (.cells #[.int .i64 x,.slice sa el.length sc] 67):=⟨_,rfl⟩
  rw[<-hw2];have bb:Below wr.heap.size wr w20:=by rw[hw2];exact(Below.refl _ _).alloc (Nat.le_refl _) _
  have hT2:Ro w20 wr.heap.size #[.int .i64 x,.slice sa el.length sc] 67:=by rw[hw2];exact Ro.new _ _ _
  obtain⟨T,hT⟩:∃n,n=wr.heap.size:=⟨_,rfl⟩
  rw[<-hT] at hT2 ⊢
  have HT2:=Hd hT2;have HG2:Hid (g<w20.heap.size):=Hd (Nat.lt_of_lt_of_le HG.o.2 bb.size);replace HB:=Hd (below_via HB.o bb);replace HX:=Hd (HX.o.below bb);replace HZ:=Hd (HZ.o.below bb);replace HO:=Hd ((HO.o.below bb).mono (Nat.le_refl _) bb.size);clear hw2 bb hT2 hT d0 d1;refine rg120_5 (w0:=w20) (B:=w20.heap.size) (n:=w20.heap.size) (L:=[]) (E:=fun W=>Ro W w.heap.size #[.string c.nm,.int .i64 c.kd,.int .i64 c.c0,.int .i64 c.c1,.int .i64 c.c2,.int .i64 c.c3,.int .i64 c.c4,.int .i64 c.mc,.int .i64 c.pw,.int .i64 c.tg,.int .i64 c.kw,.slice ea' ef.length ec',.slice (some ⟨g,0,none⟩) ts.length tc',.int .i64 c.ra] 64/\Ro W T #[.int .i64 x,.slice sa el.length sc] 67) (F:=fun _=>True) (by kernel_rfl) rfl (by kernel_rfl) ⟨⟨by go_grown,by go_size,(by simp[go_sem]<;>omega)⟩,⟨HX.o,HT2.o⟩,fun _ _ h hb=>⟨h.1.below hb,h.2.below hb⟩,trivial,fun _ _ _ _=>trivial⟩ (fun w21 K_w21 E_w21 F_w21=> ?_);have _ne:Nonempty (KX (w20.heap.size) w20 (w20.heap.size) [] (fun W=>Ro W w.heap.size #[.string c.nm,.int .i64 c.kd,.int .i64 c.c0,.int .i64 c.c1,.int .i64 c.c2,.int .i64 c.c3,.int .i64 c.c4,.int .i64 c.mc,.int .i64 c.pw,.int .i64 c.tg,.int .i64 c.kw,.slice ea' ef.length ec',.slice (some ⟨g,0,none⟩) ts.length tc',.int .i64 c.ra] 64/\Ro W T #[.int .i64 x,.slice sa el.length sc] 67)):=⟨⟨_,K_w21,E_w21⟩⟩
  repeat (go_big_quiet_step (fail))
  refine wpQuiet_nil ?_;have r12:∀s:KX (w20.heap.size) w20 (w20.heap.size) [] (fun W=>Ro W w.heap.size #[.string c.nm,.int .i64 c.kd,.int .i64 c.c0,.int .i64 c.c1,.int .i64 c.c2,.int .i64 c.c3,.int .i64 c.c4,.int .i64 c.mc,.int .i64 c.pw,.int .i64 c.tg,.int .i64 c.kw,.slice ea' ef.length ec',.slice (some ⟨g,0,none⟩) ts.length tc',.int .i64 c.ra] 64/\Ro W T #[.int .i64 x,.slice sa el.length sc] 67),s.val.cell? ⟨w.heap.size,12,none⟩=some (.slice (some ⟨g,0,none⟩) ts.length tc'):=fun s=>s.ex.1.cell 12
  have r1:∀s:KX (w20.heap.size) w20 (w20.heap.size) [] (fun W=>Ro W w.heap.size #[.string c.nm,.int .i64 c.kd,.int .i64 c.c0,.int .i64 c.c1,.int .i64 c.c2,.int .i64 c.c3,.int .i64 c.c4,.int .i64 c.mc,.int .i64 c.pw,.int .i64 c.tg,.int .i64 c.kw,.slice ea' ef.length ec',.slice (some ⟨g,0,none⟩) ts.length tc',.int .i64 c.ra] 64/\Ro W T #[.int .i64 x,.slice sa el.length sc] 67),s.val.cell? ⟨T,1,none⟩=some (.slice sa el.length sc):=fun s=>s.ex.2.cell 1
  repeat (go_big_quiet_step (fail))
  refine wpQuiet_nil ?_;have KH_w21:=Hd K_w21;have hw_w21:=K_w21.below;have hz_w21:=K_w21.size;clear K_w21;clear E_w21 F_w21
  refine⟨fun K hK0=> ?_,trivial⟩
  have hK:=Hd hK0;clear hK0;have HBW:Hid (Below w20.heap.size w20 w21):=Hd KH_w21.o.below;replace HX:=Hd (HX.o.below HBW.o);replace HT2:=Hd (HT2.o.below HBW.o);go_wp2_with fail
  with_reducible refine(cloneE (.slice sa el.length sc) _ (HEL2.o.1.below (below_via HB.o HBW.o)) HEL2.o.2).mono ?_
  rintro e v21 ⟨na,nc,rfl,_,hb⟩;replace HBW:=Hd (below_via HBW.o hb);replace HX:=Hd (HX.o.below hb);replace HT2:=Hd (HT2.o.below hb);clear hb;go_wp2_with fail
  first|refine⟨rfl,?u,hK.o _ _ ?_⟩|refine⟨?u,hK.o _ _ ?_⟩
  case u=>exact⟨⟨_,(⟨HBW.o,HBW.o.size,by simp⟩:Kept w20.heap.size w20 (w20.heap.size) [] v21),HX.o,HT2.o⟩,rfl⟩
  clear hK K
  repeat (go_big_quiet_step (fail))
  refine wpQuiet_nil ?_
  refine⟨fun K hK0=> ?_,trivial⟩
  have hK:=Hd hK0;clear hK0;replace HO:=Hd ((HO.o.below HBW.o).mono (Nat.le_refl _) HBW.o.size);replace HZ:=Hd (HZ.o.below HBW.o);replace HB:=Hd (below_via HB.o HBW.o);have q_:=HO.o.at trc_len HY.o (j:=1) (u:= .slice sa el.length sc) rfl (k*2+1) rfl
  have c_:=q_.1;have f_:=q_.2;clear q_;go_wp2_with fail
  clear c_ f_
  first|refine⟨rfl,hK.o _ _ ?_⟩|refine hK.o _ _ ?_
  clear hK K;clear r12 r1;clear _ne;go_wp2_with fail
  go_roundw
  case rel=>
   have hg1:g≠w.heap.size:=by
    intro e
    obtain⟨_,_,c2,hc2⟩:=HO.o.1.typ g rfl
    have:=HX.o
    unfold Ro at this
    rw[<-e,hc2] at this
    simp at this
   have hg2:g≠w.heap.size+1:=by
    intro e
    obtain⟨_,_,c2,hc2⟩:=HO.o.1.typ g rfl
    have:=HZ.o
    unfold Ro at this
    rw[<-e,hc2] at this
    simp at this
   obtain⟨wn,hwn⟩:∃W,W=v21.setCell ⟨g,k*2+1,none⟩ (.slice na el.length nc):=⟨_,rfl⟩
   have hon:Onl [g] v21 wn:=by rw[hwn];exact(Onl.refl _ _).setCell (.inl (by simp)) _
   have hO:=HO.o.setc trc_len HY.o (j:=1) (x':=(x,⟨na,el.length,nc⟩)) (u:= .slice na el.length nc) (by omega) rfl (k*2+1) rfl;rw[<-hwn] at hO ⊢
   refine⟨k+1,_,by omega,by go_num,belowOnl HB.o hon (by have:=HG.o;simpa using this.1) HB.o.size,(map_set_fst m k (x,⟨sa,el.length,sc⟩) _ HY.o).trans HM.o,(hon.block _ HX.o.lt (by simp;exact fun e=>hg1 e.symm)).trans HX.o,(hon.block _ HZ.o.lt (by simp;exact fun e=>hg2 e.symm)).trans HZ.o,hO.mono (Nat.le_refl _) hon.size,fun j hj=> ?_⟩
   rw[List.getElem?_set,if_neg (by omega)];exact HU.o j (by omega)
  case measure=>simp[intOf];omega
 obtain rfl:k=ts.length:=by omega
 obtain⟨c',hc'⟩:∃c':Cd,c' ={c with ea:=ea',el:=ef.length,ec:=ec',ta:=ta',tl:=ts.length,tc:=tc'}:=⟨_,rfl⟩
 have HX2:Hid (Ro wr w.heap.size c'.cells.toArray 64):=Hd (by rw[hc'];exact HX.o);have HC:=Hd hc';clear hc' HX;go_wp2_with (first|(refine wpList_load_cd c' _ rfl rfl HX2.o (by kernel_rfl) ?_)|(refine wpList_store_cd rfl c' _ _ rfl rfl rfl HZ.o rfl ?_))
 intro w30 hw30;have hon:Onl [w.heap.size+1] wr w30:=by rw[hw30.out];exact Onl.setRow (Onl.refl _ _) (.inl (by simp)) _
 have HZ2:Hid (Ro w30 (w.heap.size+1) c'.cells.toArray 64):=Hd (by rw[hw30.out];exact Ro.row HZ.o _)
 have hne:∀b,(Value.slice ta' ts.length tc').ownBlock=some b->b∉[w.heap.size+1]:=fun b hb hm=>by
  obtain⟨_,_,c2,hc2⟩:=HO.o.1.typ b hb
  have:=HZ.o
  unfold Ro at this
  simp at hm
  rw[<-hm,hc2] at this
  simp at this
 have HR2:Hid (Rw trc 2 w30 (.slice ta' ts.length tc') m):=Hd ((HO.o.rw trc_len).onl hon hne);replace HB:Hid (Below w.heap.size w w30):=Hd (belowOnl HB.o hon (by simp) HB.o.size);clear hw30 hon hne;go_wp2_with fail
 exact bodyPost_ret (results_cd rfl _ _ c' HZ2.o rfl) rfl ⟨ea',ec',ta',tc',m,by rw[HC.o];rfl,HR2.o,HM.o,fun b hb=>(HO.o.1.typ b hb).1,HB.o⟩
end Go.Proofs.YtpbepnpnpopmfaaGreat
