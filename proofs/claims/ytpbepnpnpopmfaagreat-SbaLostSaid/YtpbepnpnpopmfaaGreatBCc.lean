/- Boards that share no memory, by the code. -/
import Derived.Test.YtpbepnpnpopmfaaGreatBCl
import Derived.Test.YtpbepnpnpopmfaaGreatBOw
import Derived.Test.YtpbepnpnpopmfaaGreatBPg
import Derived.Test.YtpbepnpnpopmfaaGreatBRg
import Derived.Deep.DeepCutAuto
import Derived.LoopTactic
import Derived.Deep.MidRow
open Go.RowKit Go.Proofs.YtpbepnpnpopmfaaGreat
set_option maxRecDepth 100000
set_option maxHeartbeats 4000000
namespace Go.Proofs.YtpbepnpnpopmfaaGreat
open Plain
set_option linter.unusedVariables false
set_option linter.unusedSimpArgs false

def Plain.zeroSe:Se:=⟨0,0,0,0,0,[],[],[],[],false,false,false,0,0⟩
def Plain.zeroB:Bd:=⟨[],zeroSe,zeroSe,[],[],[],[],0,0,0,0,0⟩
def nilSl:Sl:=⟨none,0,0⟩
def nilS:Bs:=⟨nilSl,nilSl,nilSl,nilSl,nilSl,nilSl,nilSl,nilSl,nilSl,nilSl,nilSl,nilSl,nilSl⟩
structure Plain.Bd.Tl(B:Bd):Prop where
 st:∀x∈B.st,x.tg.length<=1000
 qu:∀x∈B.qu,x.tg.length<=1000
def CpA(w:World)(B:Bd)(e:Ending)(w':World):Prop:=∃s',e= .returned (bv s' B)/\BdO w.heap.size w'.heap.size w' s' B/\Below w.heap.size w w'
structure CpR(w W3:World)(s0:Bs)(B:Bd)(k:Nat)(s1:Bs)(hi:Nat)(wr:World):Prop where
 onl:Onl [w.heap.size] W3 wr
 box:Bx wr w.heap.size s1 B
 rest:s1.ob=s0.ob/\s1.st=s0.st/\s1.qu=s0.qu/\s1.bl=s0.bl/\s1.at' =s0.at'
 todo:∀j,k<=j->j<8->s1.isl j=s0.isl j
 h1:W3.heap.size<=hi
 h2:hi<=wr.heap.size
 il:Il W3.heap.size hi wr s1 B k
theorem CpR.call{w W3:World}{s0:Bs}{B:Bd}{k:Nat}{s1:Bs}{hi:Nat}{wr w':World}(h:CpR w W3 s0 B k s1 hi wr)(hb:Below wr.heap.size wr w'):CpR w W3 s0 B k s1 hi w':=
 ⟨h.onl.grow hb,h.box.below hb,h.rest,h.todo,h.h1,Nat.le_trans h.h2 hb.size,h.il.below hb⟩
theorem CpR.start{w W3:World}{s0:Bs}{B:Bd}(h:Bx W3 w.heap.size s0 B):CpR w W3 s0 B 0 s0 W3.heap.size W3:=
 ⟨Onl.refl _ _,h,⟨rfl,rfl,rfl,rfl,rfl⟩,fun _ _ _=>rfl,Nat.le_refl _,Nat.le_refl _,Il.zero _ _ _ _ _⟩
theorem CpR.step{w W3:World}{s0:Bs}{B:Bd}{p z:Nat}{s1:Bs}{hi:Nat}{wr w':World}(h:CpR w W3 s0 B (4*p+z) s1 hi wr)(hw:w.heap.size<W3.heap.size)(hp:p<2)(hz:z<4){a:Option Addr}{c:Nat}(ho:Ox ic 1 3 wr.heap.size w'.heap.size w' (.slice a ((B.seat p).zs z).length c) ((B.seat p).zs z))(hb:Below wr.heap.size wr w'):
  ∃s2,CpR w W3 s0 B (4*p+z+1) s2 w'.heap.size (w'.setCell ⟨w.heap.size,1+p*14+5+z,none⟩ (.slice a ((B.seat p).zs z).length c)):=by
 have hk:∀{lo hi:Nat} {v:Value} {l:List Int},W3.heap.size<=lo->Ox ic 1 3 lo hi w' v l->Ox ic 1 3 lo hi (w'.setCell ⟨w.heap.size,1+p*14+5+z,none⟩ (.slice a ((B.seat p).zs z).length c)) v l:=fun hl h=>h.keep (fun q hq _ _=>Below.heap_setCell _ _ _ _ (by show q≠w.heap.size;omega))
 have hsz:(w'.setCell ⟨w.heap.size,1+p*14+5+z,none⟩ (.slice a ((B.seat p).zs z).length c)).heap.size=w'.heap.size:=by simp[World.setCell]
 refine⟨s1.setZ p z ⟨a,((B.seat p).zs z).length,c⟩,⟨(h.onl.grow hb).setCell (.inl (by simp)) _,(h.box.below hb).putZ hp hz ⟨a,((B.seat p).zs z).length,c⟩,?_,fun j hj h8=> ?_,Nat.le_trans h.h1 (Nat.le_trans h.h2 hb.size),by rw[hsz];exact Nat.le_refl _,?_⟩⟩
 ·obtain⟨e1,e2,e3,e4,e5⟩:=setZ_rest s1 ⟨a,((B.seat p).zs z).length,c⟩ hp hz
  obtain⟨f1,f2,f3,f4,f5⟩:=h.rest
  exact⟨e1.trans f1,e2.trans f2,e3.trans f3,e4.trans f4,e5.trans f5⟩
 ·rw[setZ_isl _ _ hp hz (by omega),if_neg (by omega)]
  exact h.todo j (by omega) h8
 have h3:=(h.il.below hb).mono h.h2;have h4:Il W3.heap.size wr.heap.size (w'.setCell ⟨w.heap.size,1+p*14+5+z,none⟩ (.slice a ((B.seat p).zs z).length c)) s1 B (4*p+z):=⟨fun j hj=>hk (Nat.le_refl _) (h3.il j hj),h3.nd⟩;exact h4.next hp hz hb.size (Nat.le_trans h.h1 h.h2) ⟨a,((B.seat p).zs z).length,c⟩ (hk (Nat.le_trans h.h1 h.h2) ho)
theorem CpR.fin{w W3:World}{s0:Bs}{B:Bd}{s1:Bs}{hi:Nat}{wr:World}(h:CpR w W3 s0 B 8 s1 hi wr){lo:Nat}(hlo:w.heap.size<lo)(hl3:lo<=W3.heap.size)
  (hob:Ox oc 12 47 lo W3.heap.size W3 s0.ob.v B.ob) (hat:Ox ic 1 3 lo W3.heap.size W3 s0.at'.v B.att) (hbl:Ox kc 2 89 lo W3.heap.size W3 s0.bl.v B.bl) (hst:ItO lo W3.heap.size W3 s0.st.v B.st) (hqu:ItO lo W3.heap.size W3 s0.qu.v B.qu) (hns:∀b,s0.st.v.ownBlock=some b->s0.qu.v.ownBlock≠some b):BdO lo wr.heap.size wr s1 B:=by
 obtain⟨f1,f2,f3,f4,f5⟩:=h.rest
 have hk:∀k,lo<=k->k<W3.heap.size->wr.heap[k]? =W3.heap[k]? :=fun k h1 h2=>h.onl.block k h2 (by simp;omega)
 have hs:W3.heap.size<=wr.heap.size:=h.onl.size;have hat2:Ox ic 1 3 lo W3.heap.size wr s1.at'.v B.att:=by rw[f5];exact hat.keep (fun k a b _=>hk k a b)
 have hil:=h.il.last hat2 (.inr (Nat.le_refl _)) (l:=lo) (u:=wr.heap.size) ⟨hl3,Nat.le_refl _⟩ ⟨h.h2,hs⟩
 refine⟨?_,hil.il,hil.nd,?_,?_,?_,?_⟩
 ·rw[f1];exact(hob.keep (fun k a b _=>hk k a b)).mono (Nat.le_refl _) hs
 ·rw[f2];exact(hst.keep hk).mono (Nat.le_refl _) hs
 ·rw[f3];exact(hqu.keep hk).mono (Nat.le_refl _) hs
 ·rw[f2,f3];exact hns
 rw[f4];exact(hbl.keep (fun k a b _=>hk k a b)).mono (Nat.le_refl _) hs
theorem Ox.out{α:Type}{f:α->List Value}{sz:Nat}{e:TypeId}{lo hi lo' hi' n:Nat}{w w':World}{v:Value}{l:List α}(h:Ox f sz e lo hi w v l)(ho:Onl [n] w w')(hn:n<lo)(h1:lo'<=lo)(h2:hi<=hi'):Ox f sz e lo' hi' w' v l:=(h.keep (fun k a b hb=>ho.block k (h.blk hb).2.2 (by simp;omega))).mono h1 h2
theorem TgO.out{lo hi lo' hi' n:Nat}{w w':World}{v:Value}{l:List Tg}(h:TgO lo hi w v l)(ho:Onl [n] w w')(hn:n<lo)(h1:lo'<=lo)(h2:hi<=hi'):TgO lo' hi' w' v l:=h.map (fun h=>h.out ho hn h1 h2)
theorem ItO.out{lo hi lo' hi' n:Nat}{w w':World}{v:Value}{l:List It}(h:ItO lo hi w v l)(ho:Onl [n] w w')(hn:n<lo)(h1:lo'<=lo)(h2:hi<=hi'):ItO lo' hi' w' v l:=by
 obtain⟨l',g1,g2,g3⟩:=h
 exact⟨l',g1,g2.out ho hn h1 h2,fun x hx=>(g3 x hx).out ho hn h1 h2⟩
theorem ItO.ne{lo hi hi':Nat}{w:World}{v v':Value}{l l':List It}(h:ItO lo hi w v l)(h':ItO hi hi' w v' l'):∀b,v.ownBlock=some b->v'.ownBlock≠some b:=by
 obtain⟨m,_,g,_⟩:=h
 obtain⟨m',_,g',_⟩:=h'
 exact g.ne g' (w':=w) (.inl (Nat.le_refl _))
def CpP(w W3:World)(s0:Bs)(B:Bd)(v:Value)(wr:World):Prop:=∃(p:Nat) (s1:Bs) (hi:Nat),p<=2/\v= .int .i64 p/\CpR w W3 s0 B (4*p) s1 hi wr
def CpZ(w W3:World)(s0:Bs)(B:Bd)(p:Nat)(v:Value)(wr:World):Prop:=∃(z:Nat) (s1:Bs) (hi:Nat),z<=4/\v= .int .i64 z/\CpR w W3 s0 B (4*p+z) s1 hi wr
theorem rg33_1{P:Program}{B n:Nat}{w0:World}{L:List (Nat×Nat×Value)}{E F:World->Prop}{id:Nat}{Q:Exit->Act->World->Prop}{a:Act}{w:World}{A:Array Oper}{o0 o1 o2 o3 o4 o5 o6 o7 o8 o9 o10 o11 o12 o13 o14:Oper}(hm:P.follows .mixedOrders=true)(hA:A=[o0,o1,o2,o3,o4,o5,o6,o7,o8,o9,o10,o11,o12,o13,o14].toArray)(hB:regOk A [1,4,7] [0,3,6,9,11,13] (.fs [0,3,6] (.rs [1,4,7] (.alt 2 (.alt 5 (.altc 8 (.fs [9] (.altc 10 (.fs [11] (.altc 12 (.fs [13] (.altc 14 .done .stop)) .stop)) .stop)) .stop) .stop) .stop)))=true)(c:RC B w0 n L E F w)
  (h:∀wk,Kept B w0 n L wk->E wk->F wk->wpQuiet P A (fun _=>True) (fun a0=>wpQuiet P A (fun w' =>∃s:KX B w0 n L E,w' =s.val) (fun a1=>((∀K2:Act->World->Prop,(∀a2 w2,((∀K3:Act->World->Prop,(∀a3 w3,((∀K4:Act->World->Prop,(∀a4 w4,wpQuiet P A (fun _=>True) (fun a5=>((∀K6:Act->World->Prop,(∀a6 w6,wpQuiet P A (fun _=>True) (fun a7=>((∀K8:Act->World->Prop,(∀a8 w8,wpQuiet P A (fun _=>True) (fun a9=>((∀K10:Act->World->Prop,(∀a10 w10,Q .normal a10 w10->K10 a10 w10)->wpList P A (fun e a10 w10=>e= .normal/\K10 a10 w10) [o14] a9 w8)/\True)) [o13] a8->K8 a8 w8)->wpList P A (fun e a8 w8=>e= .normal/\K8 a8 w8) [o12] a7 w6)/\True)) [o11] a6->K6 a6 w6)->wpList P A (fun e a6 w6=>e= .normal/\K6 a6 w6) [o10] a5 w4)/\True)) [o9] a4->K4 a4 w4)->wpList P A (fun e a4 w4=>e= .normal/\K4 a4 w4) [o8] a3 w3)/\True)->K3 a3 w3)->wpList P A (fun e a3 w3=>e= .normal/\(∃s:KX B w0 n L E,w3=s.val)/\K3 a3 w3) [o5] a2 w2)/\True)->K2 a2 w2)->wpList P A (fun e a2 w2=>e= .normal/\(∃s:KX B w0 n L E,w2=s.val)/\K2 a2 w2) [o2] a1 wk)/\True)) [o1,o4,o7] a0) [o0,o3,o6] a):(Code.region id A true).wp P Q a w:=by
 subst hA;exact wp_reg _ _ _ hm hB c (fun wk k e f=>have g:=h wk k e f;Scr.of_fs _ _ rfl g fun _ g=>Scr.of_rs _ _ rfl g fun _ g=>(Scr.of_alt rfl (g.1 _ fun _ _ g=>g) (fun _ _ g=>(Scr.of_alt rfl (g.1 _ fun _ _ g=>g) (fun _ _ g=>(Scr.of_altc rfl (g.1 _ fun _ _ g=>g) (fun _ _ g=>Scr.of_fs _ _ rfl g fun _ g=>(Scr.of_altc rfl (g.1 _ fun _ _ g=>g) (fun _ _ g=>Scr.of_fs _ _ rfl g fun _ g=>(Scr.of_altc rfl (g.1 _ fun _ _ g=>g) (fun _ _ g=>Scr.of_fs _ _ rfl g fun _ g=>(Scr.of_altc rfl (g.1 _ fun _ _ g=>g) (fun _ _ g=>g) trivial)) trivial)) trivial)) trivial)) trivial)) trivial))
theorem rg33_2{P:Program}{B n:Nat}{w0:World}{L:List (Nat×Nat×Value)}{E F:World->Prop}{id:Nat}{Q:Exit->Act->World->Prop}{a:Act}{w:World}{A:Array Oper}{o0 o1 o2 o3 o4 o5 o6 o7 o8 o9:Oper}(hm:P.follows .mixedOrders=true)(hA:A=[o0,o1,o2,o3,o4,o5,o6,o7,o8,o9].toArray)(hB:regOk A [1,4] [0,3,6,8] (.fs [0,3] (.rs [1,4] (.alt 2 (.altc 5 (.fs [6] (.altc 7 (.fs [8] (.altc 9 .done .stop)) .stop)) .stop) .stop)))=true)(c:RC B w0 n L E F w)
  (h:∀wk,Kept B w0 n L wk->E wk->F wk->wpQuiet P A (fun _=>True) (fun a0=>wpQuiet P A (fun w' =>∃s:KX B w0 n L E,w' =s.val) (fun a1=>((∀K2:Act->World->Prop,(∀a2 w2,((∀K3:Act->World->Prop,(∀a3 w3,wpQuiet P A (fun _=>True) (fun a4=>((∀K5:Act->World->Prop,(∀a5 w5,wpQuiet P A (fun _=>True) (fun a6=>((∀K7:Act->World->Prop,(∀a7 w7,Q .normal a7 w7->K7 a7 w7)->wpList P A (fun e a7 w7=>e= .normal/\K7 a7 w7) [o9] a6 w5)/\True)) [o8] a5->K5 a5 w5)->wpList P A (fun e a5 w5=>e= .normal/\K5 a5 w5) [o7] a4 w3)/\True)) [o6] a3->K3 a3 w3)->wpList P A (fun e a3 w3=>e= .normal/\K3 a3 w3) [o5] a2 w2)/\True)->K2 a2 w2)->wpList P A (fun e a2 w2=>e= .normal/\(∃s:KX B w0 n L E,w2=s.val)/\K2 a2 w2) [o2] a1 wk)/\True)) [o1,o4] a0) [o0,o3] a):(Code.region id A true).wp P Q a w:=by
 subst hA;exact wp_reg _ _ _ hm hB c (fun wk k e f=>have g:=h wk k e f;Scr.of_fs _ _ rfl g fun _ g=>Scr.of_rs _ _ rfl g fun _ g=>(Scr.of_alt rfl (g.1 _ fun _ _ g=>g) (fun _ _ g=>(Scr.of_altc rfl (g.1 _ fun _ _ g=>g) (fun _ _ g=>Scr.of_fs _ _ rfl g fun _ g=>(Scr.of_altc rfl (g.1 _ fun _ _ g=>g) (fun _ _ g=>Scr.of_fs _ _ rfl g fun _ g=>(Scr.of_altc rfl (g.1 _ fun _ _ g=>g) (fun _ _ g=>g) trivial)) trivial)) trivial)) trivial))
theorem bcopy(s:Bs)(B:Bd)(w:World)(h:BdR w s B)(hsm:B.Sm)(htl:B.Tl):Calls Tryz.prog 33 #[bv s B] w (CpA w B):=by
 have HR0:=Hd h;have HSM:=Hd hsm;have HTL:=Hd htl
 obtain⟨_,ao,co,hvo,_⟩:=h.ob.form
 obtain⟨_,aa,ca,hva,_⟩:=h.att.form
 obtain⟨_,ab,cb,hvb,_⟩:=h.bl.form
 have HC0:Hid (∀W,Bx W w.heap.size s B->W.cell? ⟨w.heap.size,0,none⟩=some (.slice ao B.ob.length co)):=Hd (fun W h=>by rw[h.cell 0,<-hvo];rfl);have HC31:Hid (∀W,Bx W w.heap.size s B->W.cell? ⟨w.heap.size,31,none⟩=some (.slice aa B.att.length ca)):=Hd (fun W h=>by rw[h.cell 31,<-hva];rfl);have HC32:Hid (∀W,Bx W w.heap.size s B->W.cell? ⟨w.heap.size,32,none⟩=some (.slice ab B.bl.length cb)):=Hd (fun W h=>by rw[h.cell 32,<-hvb];rfl)
 obtain⟨l1,hl1,hrst,htst⟩:=h.st
 obtain⟨l2,hl2,hrqu,htqu⟩:=h.qu
 obtain⟨_,ast,cs,hvs,_⟩:=hrst.form
 obtain⟨_,aq,cq,hvq,_⟩:=hrqu.form
 have en1:l1.length=B.st.length:=by rw[<-hl1,List.length_map]
 have en2:l2.length=B.qu.length:=by rw[<-hl2,List.length_map]
 have HCS:Hid (∀W (s':Bs),s'.st=s.st->Bx W w.heap.size s' B->W.cell? ⟨w.heap.size,29,none⟩=some (.slice ast B.st.length cs)):=Hd (fun W s' e h=>by rw[h.cell 29,<-en1,<-hvs,<-e];rfl);have HCQ:Hid (∀W (s':Bs),s'.qu=s.qu->Bx W w.heap.size s' B->W.cell? ⟨w.heap.size,30,none⟩=some (.slice aq B.qu.length cq)):=Hd (fun W s' e h=>by rw[h.cell 30,<-en2,<-hvq,<-e];rfl);have HRI:Hid (ItR w (.slice ast B.st.length cs) B.st/\ItR w (.slice aq B.qu.length cq) B.qu):=Hd ⟨by rw[<-en1,<-hvs];exact h.st,by rw[<-en2,<-hvq];exact h.qu⟩;have HR:Hid (Rw oc 12 w (.slice ao B.ob.length co) B.ob/\Rw ic 1 w (.slice aa B.att.length ca) B.att/\Rw kc 2 w (.slice ab B.bl.length cb) B.bl):=Hd ⟨by rw[<-hvo];exact h.ob,by rw[<-hva];exact h.att,by rw[<-hvb];exact h.bl⟩;clear h hsm htl hvo hva hvb hl1 hl2 hrst hrqu htst htqu hvs hvq en1 en2;go_enter Tryz.func33,Tryz.ntmps33
 go_upto_region 1 with fail
 change Code.wp Tryz.prog _ _ _ ((w.alloc (.cells (bcells s B) 34)).alloc (.cells (bcells nilS zeroB) 34))
 obtain⟨wz,hwz⟩:∃W,W=(w.alloc (.cells (bcells s B) 34)).alloc (.cells (bcells nilS zeroB) 34):=⟨_,rfl⟩
 have hsz:wz.heap.size=w.heap.size+1+1:=by rw[hwz];simp
 have b1:Below w.heap.size w (w.alloc (.cells (bcells s B) 34)):=(Below.refl _ _).alloc (Nat.le_refl _) _;have b2:Below (w.alloc (.cells (bcells s B) 34)).heap.size (w.alloc (.cells (bcells s B) 34)) wz:=by rw[hwz];exact(Below.refl _ _).alloc (Nat.le_refl _) _
 have HX:Hid (Bx wz w.heap.size s B):=Hd (Bx.below (w:=w.alloc (.cells (bcells s B) 34)) (heap_alloc_new _ _) b2);have HZ:Hid (Bx wz (w.heap.size+1) nilS zeroB):=Hd (by rw[hwz,show w.heap.size+1=(w.alloc (.cells (bcells s B) 34)).heap.size by simp];exact heap_alloc_new _ _);have HB:Hid (Below w.heap.size w wz):=Hd (below_via b1 b2);rw[<-hwz];clear hwz b1 b2;refine rg33_1 (w0:=wz) (B:=wz.heap.size) (n:=wz.heap.size) (L:=[]) (E:=fun W=>Bx W w.heap.size s B) (F:=fun _=>True) (by kernel_rfl) rfl (by kernel_rfl) ⟨⟨by go_grown,by go_size,(by simp[go_sem]<;>omega)⟩,HX.o,fun _ _ h hb=>h.below hb,trivial,fun _ _ _ _=>trivial⟩ (fun w1 K_w1 E_w1 F_w1=> ?_);have _ne:Nonempty (KX (wz.heap.size) wz (wz.heap.size) [] (fun W=>Bx W w.heap.size s B)):=⟨⟨_,K_w1,E_w1⟩⟩
 repeat (go_big_quiet_step (fail))
 refine wpQuiet_nil ?_;have ra:∀s:KX (wz.heap.size) wz (wz.heap.size) [] (fun W=>Bx W w.heap.size s B),s.val.cell? ⟨w.heap.size,0,none⟩=some (.slice ao B.ob.length co):=fun s=>HC0.o s.val s.ex
 have rb:∀s:KX (wz.heap.size) wz (wz.heap.size) [] (fun W=>Bx W w.heap.size s B),s.val.cell? ⟨w.heap.size,31,none⟩=some (.slice aa B.att.length ca):=fun s=>HC31.o s.val s.ex
 have rc:∀s:KX (wz.heap.size) wz (wz.heap.size) [] (fun W=>Bx W w.heap.size s B),s.val.cell? ⟨w.heap.size,32,none⟩=some (.slice ab B.bl.length cb):=fun s=>HC32.o s.val s.ex
 repeat (go_big_quiet_step (fail))
 refine wpQuiet_nil ?_;have KH_w1:=Hd K_w1;have hw_w1:=K_w1.below;have hz_w1:=K_w1.size;clear K_w1;clear E_w1 F_w1
 refine⟨fun K hK0=> ?_,trivial⟩
 have hK:=Hd hK0;clear hK0;replace HX:=Hd (HX.o.below hw_w1);replace HZ:=Hd (HZ.o.below hw_w1);replace HB:=Hd (below_via HB.o hw_w1);have HK:=KH_w1;have hz0_w1:=hw_w1.size;clear hw_w1 hz_w1 KH_w1;go_wp2_with fail
 with_reducible refine(cloneO _ _ (HR.o.1.below HB.o) HSM.o.ob).mono ?_
 rintro e w2 ⟨oba,obc,rfl,ho,hb⟩;have HOob:=Hd ho;replace HK:=Hd (Kept.step HK.o (Nat.le_refl _) hb);have hz0_w2:=hb.size;replace HX:=Hd (HX.o.below hb);replace HZ:=Hd (HZ.o.below hb);replace HB:=Hd (below_via HB.o hb);clear ho hb;go_wp2_with fail
 first|refine⟨rfl,?u,hK.o _ _ ?_⟩|refine⟨?u,hK.o _ _ ?_⟩
 case u=>exact⟨⟨_,HK.o,HX.o⟩,rfl⟩
 clear hK K
 refine⟨fun K hK0=> ?_,trivial⟩
 have hK:=Hd hK0;clear hK0;go_wp2_with fail
 with_reducible refine(cloneI _ _ (HR.o.2.1.below HB.o) HSM.o.att).mono ?_
 rintro e w3 ⟨ata,atc,rfl,ho,hb⟩;have HOat:=Hd ho;replace HK:=Hd (Kept.step HK.o (Nat.le_refl _) hb);have hz0_w3:=hb.size;replace HOob:=Hd (HOob.o.below hb);replace HX:=Hd (HX.o.below hb);replace HZ:=Hd (HZ.o.below hb);replace HB:=Hd (below_via HB.o hb);clear ho hb;go_wp2_with fail
 first|refine⟨rfl,?u,hK.o _ _ ?_⟩|refine⟨?u,hK.o _ _ ?_⟩
 case u=>exact⟨⟨_,HK.o,HX.o⟩,rfl⟩
 clear hK K
 refine⟨fun K hK0=> ?_,trivial⟩
 have hK:=Hd hK0;clear hK0;go_wp2_with fail
 with_reducible refine(cloneK _ _ (HR.o.2.2.below HB.o) HSM.o.bl).mono ?_
 rintro e w4 ⟨bla,blc,rfl,ho,hb⟩;have HObl:=Hd ho;replace HK:=Hd (Kept.step HK.o (Nat.le_refl _) hb);have hz0_w4:=hb.size;replace HOob:=Hd (HOob.o.below hb);replace HOat:=Hd (HOat.o.below hb);replace HX:=Hd (HX.o.below hb);replace HZ:=Hd (HZ.o.below hb);replace HB:=Hd (below_via HB.o hb);clear ho hb;go_wp2_with fail
 first|refine⟨rfl,hK.o _ _ ?_⟩|refine hK.o _ _ ?_
 clear hK K
 repeat (go_big_quiet_step (fail))
 refine wpQuiet_nil ?_
 refine⟨fun K hK0=> ?_,trivial⟩
 have hK:=Hd hK0;clear hK0;have HN:Hid (Onl [w.heap.size] w4 w4):=Hd (Onl.refl _ _);have c:=HX.o.cell 0;have f:=HX.o.free 0;change w4.cell? ⟨w.heap.size,0,none⟩=some (.slice _ _ _) at c
 go_wp2_with fail
 obtain⟨w5,hw5⟩:∃W,W=w4.setCell ⟨w.heap.size,0,none⟩ (.slice oba B.ob.length obc):=⟨_,rfl⟩
 rw[<-hw5];replace HX:Hid (Bx w5 w.heap.size {s with ob:=⟨oba,B.ob.length,obc⟩} B):=Hd (by rw[hw5];exact HX.o.put 0 _ rfl);replace HN:Hid (Onl [w.heap.size] w4 w5):=Hd (by rw[hw5];exact HN.o.setCell (.inl (by simp)) _);clear c f hw5
 first|refine⟨rfl,hK.o _ _ ?_⟩|refine hK.o _ _ ?_
 clear hK K
 repeat (go_big_quiet_step (fail))
 refine wpQuiet_nil ?_
 refine⟨fun K hK0=> ?_,trivial⟩
 have hK:=Hd hK0;clear hK0;have c:=HX.o.cell 31;have f:=HX.o.free 31;change w5.cell? ⟨w.heap.size,31,none⟩=some (.slice _ _ _) at c
 go_wp2_with fail
 obtain⟨w6,hw6⟩:∃W,W=w5.setCell ⟨w.heap.size,31,none⟩ (.slice ata B.att.length atc):=⟨_,rfl⟩
 rw[<-hw6];replace HX:Hid (Bx w6 w.heap.size {s with ob:=⟨oba,B.ob.length,obc⟩,at':=⟨ata,B.att.length,atc⟩} B):=Hd (by rw[hw6];exact HX.o.put 31 _ rfl);replace HN:Hid (Onl [w.heap.size] w4 w6):=Hd (by rw[hw6];exact HN.o.setCell (.inl (by simp)) _);clear c f hw6
 first|refine⟨rfl,hK.o _ _ ?_⟩|refine hK.o _ _ ?_
 clear hK K
 repeat (go_big_quiet_step (fail))
 refine wpQuiet_nil ?_
 refine⟨fun K hK0=> ?_,trivial⟩
 have hK:=Hd hK0;clear hK0;have c:=HX.o.cell 32;have f:=HX.o.free 32;change w6.cell? ⟨w.heap.size,32,none⟩=some (.slice _ _ _) at c
 go_wp2_with fail
 obtain⟨w7,hw7⟩:∃W,W=w6.setCell ⟨w.heap.size,32,none⟩ (.slice bla B.bl.length blc):=⟨_,rfl⟩
 rw[<-hw7];replace HX:Hid (Bx w7 w.heap.size {s with ob:=⟨oba,B.ob.length,obc⟩,at':=⟨ata,B.att.length,atc⟩,bl:=⟨bla,B.bl.length,blc⟩} B):=Hd (by rw[hw7];exact HX.o.put 32 _ rfl);replace HN:Hid (Onl [w.heap.size] w4 w7):=Hd (by rw[hw7];exact HN.o.setCell (.inl (by simp)) _);clear c f hw7
 first|refine⟨rfl,hK.o _ _ ?_⟩|refine hK.o _ _ ?_
 clear hK K;clear ra rb rc;clear _ne;have hzs:w4.heap.size<=w7.heap.size:=HN.o.size;replace HOob:=Hd (HOob.o.out HN.o (lo':=w.heap.size+1+1) (hi':=w7.heap.size) (by omega) (by omega) (by omega));replace HOat:=Hd (HOat.o.out HN.o (lo':=w.heap.size+1+1) (hi':=w7.heap.size) (by omega) (by omega) (by omega));replace HObl:=Hd (HObl.o.out HN.o (lo':=w.heap.size+1+1) (hi':=w7.heap.size) (by omega) (by omega) (by omega));replace HZ:=Hd (HZ.o.onl HN.o (by simp));replace HB:=Hd (belowOnl HB.o HN.o (by simp) HB.o.size);clear HN;clear HK
 go_upto_region 2 with fail
 refine rg33_2 (w0:=w7) (B:=w7.heap.size) (n:=w7.heap.size) (L:=[]) (E:=fun W=>Bx W w.heap.size {s with ob:=⟨oba,B.ob.length,obc⟩,at':=⟨ata,B.att.length,atc⟩,bl:=⟨bla,B.bl.length,blc⟩} B) (F:=fun _=>True) (by kernel_rfl) rfl (by kernel_rfl) ⟨⟨by go_grown,by go_size,(by simp[go_sem]<;>omega)⟩,HX.o,fun _ _ h hb=>h.below hb,trivial,fun _ _ _ _=>trivial⟩ (fun w11 K_w11 E_w11 F_w11=> ?_);have _ne:Nonempty (KX (w7.heap.size) w7 (w7.heap.size) [] (fun W=>Bx W w.heap.size {s with ob:=⟨oba,B.ob.length,obc⟩,at':=⟨ata,B.att.length,atc⟩,bl:=⟨bla,B.bl.length,blc⟩} B)):=⟨⟨_,K_w11,E_w11⟩⟩
 repeat (go_big_quiet_step (fail))
 refine wpQuiet_nil ?_;have ra:∀s:KX (w7.heap.size) w7 (w7.heap.size) [] (fun W=>Bx W w.heap.size {s with ob:=⟨oba,B.ob.length,obc⟩,at':=⟨ata,B.att.length,atc⟩,bl:=⟨bla,B.bl.length,blc⟩} B),s.val.cell? ⟨w.heap.size,29,none⟩=some (.slice ast B.st.length cs):=fun s=>HCS.o s.val _ (by rfl) s.ex
 have rb:∀s:KX (w7.heap.size) w7 (w7.heap.size) [] (fun W=>Bx W w.heap.size {s with ob:=⟨oba,B.ob.length,obc⟩,at':=⟨ata,B.att.length,atc⟩,bl:=⟨bla,B.bl.length,blc⟩} B),s.val.cell? ⟨w.heap.size,30,none⟩=some (.slice aq B.qu.length cq):=fun s=>HCQ.o s.val _ (by rfl) s.ex
 repeat (go_big_quiet_step (fail))
 refine wpQuiet_nil ?_;have KH_w11:=Hd K_w11;have hw_w11:=K_w11.below;have hz_w11:=K_w11.size;clear K_w11;clear E_w11 F_w11
 refine⟨fun K hK0=> ?_,trivial⟩
 have hK:=Hd hK0;clear hK0;replace HX:=Hd (HX.o.below hw_w11);replace HZ:=Hd (HZ.o.below hw_w11);replace HB:=Hd (below_via HB.o hw_w11);have HK:=KH_w11;have hz0_w11:=hw_w11.size;replace HOob:=Hd (HOob.o.below hw_w11);replace HOat:=Hd (HOat.o.below hw_w11);replace HObl:=Hd (HObl.o.below hw_w11);clear hw_w11 hz_w11 KH_w11;go_wp2_with fail
 with_reducible refine(items _ _ _ (HRI.o.1.below HB.o) HSM.o.st HTL.o.1).mono ?_
 rintro e w12 ⟨sta,stc,rfl,ho,hb⟩;have HOst:=Hd ho;replace HK:=Hd (Kept.step HK.o (Nat.le_refl _) hb);have hz0_w12:=hb.size;replace HOob:=Hd (HOob.o.below hb);replace HOat:=Hd (HOat.o.below hb);replace HObl:=Hd (HObl.o.below hb);replace HX:=Hd (HX.o.below hb);replace HZ:=Hd (HZ.o.below hb);replace HB:=Hd (below_via HB.o hb);clear ho hb;go_wp2_with fail
 first|refine⟨rfl,?u,hK.o _ _ ?_⟩|refine⟨?u,hK.o _ _ ?_⟩
 case u=>exact⟨⟨_,HK.o,HX.o⟩,rfl⟩
 clear hK K
 refine⟨fun K hK0=> ?_,trivial⟩
 have hK:=Hd hK0;clear hK0;go_wp2_with fail
 with_reducible refine(items _ _ _ (HRI.o.2.below HB.o) HSM.o.qu HTL.o.2).mono ?_
 rintro e w13 ⟨qua,quc,rfl,ho,hb⟩;have HOqu:=Hd ho;replace HK:=Hd (Kept.step HK.o (Nat.le_refl _) hb);have hz0_w13:=hb.size;replace HOob:=Hd (HOob.o.below hb);replace HOat:=Hd (HOat.o.below hb);replace HObl:=Hd (HObl.o.below hb);replace HOst:=Hd (HOst.o.below hb);replace HX:=Hd (HX.o.below hb);replace HZ:=Hd (HZ.o.below hb);replace HB:=Hd (below_via HB.o hb);clear ho hb;go_wp2_with fail
 first|refine⟨rfl,hK.o _ _ ?_⟩|refine hK.o _ _ ?_
 clear hK K
 repeat (go_big_quiet_step (fail))
 refine wpQuiet_nil ?_
 refine⟨fun K hK0=> ?_,trivial⟩
 have hK:=Hd hK0;clear hK0;have HN:Hid (Onl [w.heap.size] w13 w13):=Hd (Onl.refl _ _);have c:=HX.o.cell 29;have f:=HX.o.free 29;change w13.cell? ⟨w.heap.size,29,none⟩=some (.slice _ _ _) at c
 go_wp2_with fail
 obtain⟨w14,hw14⟩:∃W,W=w13.setCell ⟨w.heap.size,29,none⟩ (.slice sta B.st.length stc):=⟨_,rfl⟩
 rw[<-hw14];replace HX:Hid (Bx w14 w.heap.size {s with ob:=⟨oba,B.ob.length,obc⟩,at':=⟨ata,B.att.length,atc⟩,bl:=⟨bla,B.bl.length,blc⟩,st:=⟨sta,B.st.length,stc⟩} B):=Hd (by rw[hw14];exact HX.o.put 29 _ rfl);replace HN:Hid (Onl [w.heap.size] w13 w14):=Hd (by rw[hw14];exact HN.o.setCell (.inl (by simp)) _);clear c f hw14
 first|refine⟨rfl,hK.o _ _ ?_⟩|refine hK.o _ _ ?_
 clear hK K
 repeat (go_big_quiet_step (fail))
 refine wpQuiet_nil ?_
 refine⟨fun K hK0=> ?_,trivial⟩
 have hK:=Hd hK0;clear hK0;have c:=HX.o.cell 30;have f:=HX.o.free 30;change w14.cell? ⟨w.heap.size,30,none⟩=some (.slice _ _ _) at c
 go_wp2_with fail
 obtain⟨w15,hw15⟩:∃W,W=w14.setCell ⟨w.heap.size,30,none⟩ (.slice qua B.qu.length quc):=⟨_,rfl⟩
 rw[<-hw15];replace HX:Hid (Bx w15 w.heap.size {s with ob:=⟨oba,B.ob.length,obc⟩,at':=⟨ata,B.att.length,atc⟩,bl:=⟨bla,B.bl.length,blc⟩,st:=⟨sta,B.st.length,stc⟩,qu:=⟨qua,B.qu.length,quc⟩} B):=Hd (by rw[hw15];exact HX.o.put 30 _ rfl);replace HN:Hid (Onl [w.heap.size] w13 w15):=Hd (by rw[hw15];exact HN.o.setCell (.inl (by simp)) _);clear c f hw15
 first|refine⟨rfl,hK.o _ _ ?_⟩|refine hK.o _ _ ?_
 clear hK K;clear ra rb;clear _ne;have HNS:Hid (∀b,(Value.slice sta B.st.length stc).ownBlock=some b->(Value.slice qua B.qu.length quc).ownBlock≠some b):=Hd (HOst.o.ne HOqu.o);have hzs:w13.heap.size<=w15.heap.size:=HN.o.size;replace HOob:=Hd (HOob.o.out HN.o (lo':=w.heap.size+1+1) (hi':=w15.heap.size) (by omega) (by omega) (by omega));replace HOat:=Hd (HOat.o.out HN.o (lo':=w.heap.size+1+1) (hi':=w15.heap.size) (by omega) (by omega) (by omega));replace HObl:=Hd (HObl.o.out HN.o (lo':=w.heap.size+1+1) (hi':=w15.heap.size) (by omega) (by omega) (by omega));replace HOst:=Hd (HOst.o.out HN.o (lo':=w.heap.size+1+1) (hi':=w15.heap.size) (by omega) (by omega) (by omega));replace HOqu:=Hd (HOqu.o.out HN.o (lo':=w.heap.size+1+1) (hi':=w15.heap.size) (by omega) (by omega) (by omega));replace HZ:=Hd (HZ.o.onl HN.o (by simp));replace HB:=Hd (belowOnl HB.o HN.o (by simp) HB.o.size);clear HN;clear HK;have HLO:Hid (w.heap.size+1+1<=w15.heap.size):=Hd (by omega);have HS0:Hid (CpR w w15 {s with ob:=⟨oba,B.ob.length,obc⟩,at':=⟨ata,B.att.length,atc⟩,bl:=⟨bla,B.bl.length,blc⟩,st:=⟨sta,B.st.length,stc⟩,qu:=⟨qua,B.qu.length,quc⟩} B 0 {s with ob:=⟨oba,B.ob.length,obc⟩,at':=⟨ata,B.att.length,atc⟩,bl:=⟨bla,B.bl.length,blc⟩,st:=⟨sta,B.st.length,stc⟩,qu:=⟨qua,B.qu.length,quc⟩} w15.heap.size w15):=Hd (CpR.start HX.o)
 have HRZ:Hid (∀(p z:Nat) (s1:Bs) (hi:Nat) (W:World),p<2->z<4->CpR w w15 {s with ob:=⟨oba,B.ob.length,obc⟩,at':=⟨ata,B.att.length,atc⟩,bl:=⟨bla,B.bl.length,blc⟩,st:=⟨sta,B.st.length,stc⟩,qu:=⟨qua,B.qu.length,quc⟩} B (4*p+z) s1 hi W->s1.zl p z=s.zl p z):=Hd (fun p z s1 hi W hp hz h=>by
  have h1:=h.todo (4*p+z) (Nat.le_refl _) (by omega);have e:∀q:Bs,q.isl (4*p+z)=q.zl p z:=fun q=>by unfold Bs.isl;rw[if_pos (by omega),show(4*p+z) / 4=p by omega,show(4*p+z)%4=z by omega]
  rw[e,e] at h1
  rw[h1]
  have:(p=0/\z=0)\/(p=0/\z=1)\/(p=0/\z=2)\/(p=0/\z=3)\/(p=1/\z=0)\/(p=1/\z=1)\/(p=1/\z=2)\/(p=1/\z=3):=by omega
  rcases this with⟨rfl,rfl⟩|⟨rfl,rfl⟩|⟨rfl,rfl⟩|⟨rfl,rfl⟩|⟨rfl,rfl⟩|⟨rfl,rfl⟩|⟨rfl,rfl⟩|⟨rfl,rfl⟩<;>rfl)
 go_wp2_with fail
 go_loopw [26] (fun p wr=>CpP w w15 {s with ob:=⟨oba,B.ob.length,obc⟩,at':=⟨ata,B.att.length,atc⟩,bl:=⟨bla,B.bl.length,blc⟩,st:=⟨sta,B.st.length,stc⟩,qu:=⟨qua,B.qu.length,quc⟩} B p wr) (fun p _=>2-(intOf p).toNat)
 case atStart=>exact⟨0,_,_,by omega,rfl,HS0.o⟩
 obtain⟨p,s1,hi,hp,rfl,hst⟩:=hrel
 have HST:=Hd hst;clear hst HS0
 by_cases hp2:p<2
 ·have i1:(0:Int)<=(p:Int):=by omega
  have i2:(p:Int)<2:=by omega
  go_wp2_with fail
  with_reducible refine(lists w.heap.size (1+p*14) _).mono ?_
  rintro e w2 ⟨rfl,hb2⟩;replace HST:=Hd (HST.o.call hb2);clear hb2;go_wp2_with fail
  go_loopw [33] (fun z wr=>CpZ w w15 {s with ob:=⟨oba,B.ob.length,obc⟩,at':=⟨ata,B.att.length,atc⟩,bl:=⟨bla,B.bl.length,blc⟩,st:=⟨sta,B.st.length,stc⟩,qu:=⟨qua,B.qu.length,quc⟩} B p z wr) (fun z _=>4-(intOf z).toNat)
  case atStart=>exact⟨0,_,_,by omega,rfl,HST.o⟩
  obtain⟨z,s2,hi2,hz,rfl,hst⟩:=hrel
  replace HST:=Hd hst;clear hst
  by_cases hz4:z<4
  ·have j1:(0:Int)<=(z:Int):=by omega
   have j2:(z:Int)<4:=by omega
   have hix:=idx4 w.heap.size (1+p*14) hz4;have HZR:Hid (Rw ic 1 w (s2.zl p z).v ((B.seat p).zs z)):=Hd (by rw[HRZ.o p z s2 hi2 wr hp2 hz4 HST.o];exact HR0.o.zone p z);have hcz:=HST.o.box.zone hp2 hz4;have hcf:=HST.o.box.free (1+p*14+5+z);have hpl:=HST.o.box.lt;have HSZ:=Hd (HSM.o.zs p z)
   obtain⟨⟨sa,sn,sc⟩,hsl⟩:∃q,s2.zl p z=q:=⟨_,rfl⟩
   rw[hsl] at hcz HZR
   clear hsl;change Hid (Rw ic 1 _ (.slice sa sn sc) _) at HZR
   have HBW:Hid (Below w.heap.size w wr):=Hd (belowOnl HB.o HST.o.onl (by simp) HB.o.size);have HP2:=Hd hp2;have HZ4:=Hd hz4;go_wp2_with fail
   with_reducible refine(cloneI _ _ (HZR.o.below HBW.o) HSZ.o).mono ?_
   rintro e w4 ⟨ka,kc',rfl,ho,hb⟩;have ecz:w4.cell? ⟨w.heap.size,1+p*14+5+z,none⟩=some (.slice sa sn sc):=(hb.cell (p:=⟨w.heap.size,1+p*14+5+z,none⟩) hpl).trans hcz;have ecf:w4.frozen? ⟨w.heap.size,1+p*14+5+z,none⟩=false:=(hb.frozen (p:=⟨w.heap.size,1+p*14+5+z,none⟩) hpl).trans hcf;have HSTEP:=Hd (HST.o.step (by have:=HLO.o;omega) hp2 hz4 ho hb);clear hcz hcf ho hb hpl;go_wp2_with fail
   go_roundw
   case rel=>
    obtain⟨s3,h3⟩:=HSTEP.o
    exact⟨z+1,s3,_,by omega,by go_num,h3⟩
   case measure=>simp[intOf];omega
  obtain rfl:z=4:=by omega
  have HS8:Hid (CpR w w15 {s with ob:=⟨oba,B.ob.length,obc⟩,at':=⟨ata,B.att.length,atc⟩,bl:=⟨bla,B.bl.length,blc⟩,st:=⟨sta,B.st.length,stc⟩,qu:=⟨qua,B.qu.length,quc⟩} B (4*(p+1)) s2 hi2 wr):=Hd (by rw[show 4*(p+1)=4*p+4 by omega];exact HST.o);go_wp2_with fail
  go_roundw
  case rel=>exact⟨p+1,s2,hi2,by omega,by go_num,HS8.o⟩
  case measure=>simp[intOf];omega
 obtain rfl:p=2:=by omega
 have HBW:Hid (Below w.heap.size w wr):=Hd (belowOnl HB.o HST.o.onl (by simp) HB.o.size);have HZW:Hid (Bx wr (w.heap.size+1) nilS zeroB):=Hd (HZ.o.onl HST.o.onl (by simp));have HXW:=Hd HST.o.box;have HFIN:Hid (BdO (w.heap.size+1+1) wr.heap.size wr s1 B):=Hd (HST.o.fin (lo:=w.heap.size+1+1) (by omega) HLO.o HOob.o HOat.o HObl.o HOst.o HOqu.o HNS.o)
 go_upto_region 12 with fail
 go_wp2_with (first|(refine wpList_load_bx _ rfl rfl HXW.o (by kernel_rfl) ?_)|(refine wpList_store_bx rfl _ _ rfl rfl rfl HZW.o rfl ?_;intro w9 hw9))
 have hg9:Bx w9 (w.heap.size+1) s1 B:=by rw[hw9];exact Bx.row HZW.o s1 B
 have ho9:Onl [w.heap.size+1] wr w9:=by rw[hw9];exact Onl.setRow (Onl.refl _ _) (.inl (by simp)) _
 have hb9:Below w.heap.size w w9:=belowOnl HBW.o ho9 (by simp) HBW.o.size;have hf9:=HFIN.o.keep (fun k a _=>ho9.block k (by omega) (by simp;omega));have HG9:=Hd hg9;have HPOST:Hid (CpA w B (.returned (bv s1 B)) w9):=Hd ⟨s1,rfl,hf9.mono (by omega) ho9.size,hb9⟩;clear hw9 hg9 ho9 hb9 hf9;go_wp2_with fail
 exact bodyPost_ret (v:=bv s1 B) (results_cell_row Tryz.results33 _ _ _ _ _ _ _ rfl HG9.o Tryz.underlying34 rfl (by kernel_rfl)) rfl HPOST.o
end Go.Proofs.YtpbepnpnpopmfaaGreat
