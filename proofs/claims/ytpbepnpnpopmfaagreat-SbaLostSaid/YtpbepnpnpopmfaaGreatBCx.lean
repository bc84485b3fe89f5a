/- Boards that share no memory, by the reference. -/
import Derived.Test.YtpbepnpnpopmfaaGreatBSm
import Derived.Deep.DeepCutAuto
import Derived.LoopTactic
import Derived.Deep.MidRow
open Go.RowKit Go.Proofs.YtpbepnpnpopmfaaGreat
set_option maxRecDepth 100000
set_option maxHeartbeats 4000000
namespace Go.Proofs.YtpbepnpnpopmfaaGreat
open Plain
set_option linter.unusedVariables false
set_option linter.unusedSimpArgs false

theorem rg17_10{P:Program}{B n:Nat}{w0:World}{L:List (Nat×Nat×Value)}{E F:World->Prop}{id:Nat}{Q:Exit->Act->World->Prop}{a:Act}{w:World}{A:Array Oper}{o0 o1 o2 o3 o4 o5 o6 o7 o8 o9:Oper}(hm:P.follows .mixedOrders=true)(hA:A=[o0,o1,o2,o3,o4,o5,o6,o7,o8,o9].toArray)(hB:regOk A [1,4] [0,3,6,8] (.fs [0,3] (.rs [1,4] (.alt 2 (.altc 5 (.fs [6] (.altc 7 (.fs [8] (.altc 9 .done .stop)) .stop)) .stop) .stop)))=true)(c:RC B w0 n L E F w)
  (h:∀wk,Kept B w0 n L wk->E wk->F wk->wpQuiet P A (fun _=>True) (fun a0=>wpQuiet P A (fun w' =>∃s:KX B w0 n L E,w' =s.val) (fun a1=>((∀K2:Act->World->Prop,(∀a2 w2,((∀K3:Act->World->Prop,(∀a3 w3,wpQuiet P A (fun _=>True) (fun a4=>((∀K5:Act->World->Prop,(∀a5 w5,wpQuiet P A (fun _=>True) (fun a6=>((∀K7:Act->World->Prop,(∀a7 w7,Q .normal a7 w7->K7 a7 w7)->wpList P A (fun e a7 w7=>e= .normal/\K7 a7 w7) [o9] a6 w5)/\True)) [o8] a5->K5 a5 w5)->wpList P A (fun e a5 w5=>e= .normal/\K5 a5 w5) [o7] a4 w3)/\True)) [o6] a3->K3 a3 w3)->wpList P A (fun e a3 w3=>e= .normal/\K3 a3 w3) [o5] a2 w2)/\True)->K2 a2 w2)->wpList P A (fun e a2 w2=>e= .normal/\(∃s:KX B w0 n L E,w2=s.val)/\K2 a2 w2) [o2] a1 wk)/\True)) [o1,o4] a0) [o0,o3] a):(Code.region id A true).wp P Q a w:=by
 subst hA;exact wp_reg _ _ _ hm hB c (fun wk k e f=>have g:=h wk k e f;Scr.of_fs _ _ rfl g fun _ g=>Scr.of_rs _ _ rfl g fun _ g=>(Scr.of_alt rfl (g.1 _ fun _ _ g=>g) (fun _ _ g=>(Scr.of_altc rfl (g.1 _ fun _ _ g=>g) (fun _ _ g=>Scr.of_fs _ _ rfl g fun _ g=>(Scr.of_altc rfl (g.1 _ fun _ _ g=>g) (fun _ _ g=>Scr.of_fs _ _ rfl g fun _ g=>(Scr.of_altc rfl (g.1 _ fun _ _ g=>g) (fun _ _ g=>g) trivial)) trivial)) trivial)) trivial))
theorem rcopy(s:Bs)(B:Bd)(w:World)(h:BdR w s B)(hsm:B.Sm)(htl:B.Tl):Calls Tryz.prog 17 #[bv s B] w (CpA w B):=by
 have HR0:=Hd h;have HSM:=Hd hsm;have HTL:=Hd htl
 obtain⟨_,ao,co,hvo,_⟩:=h.ob.form
 obtain⟨_,aa,ca,hva,_⟩:=h.att.form
 obtain⟨_,ab,cb,hvb,_⟩:=h.bl.form
 have HC0:Hid (∀W,Bx W w.heap.size s B->W.cell? ⟨w.heap.size,0,none⟩=some (.slice ao B.ob.length co)):=Hd (fun W h=>by rw[h.cell 0,<-hvo];rfl);have HC31:Hid (∀W (s':Bs),s'.at' =s.at'->Bx W w.heap.size s' B->W.cell? ⟨w.heap.size,31,none⟩=some (.slice aa B.att.length ca)):=Hd (fun W s' e h=>by rw[h.cell 31,<-hva,<-e];rfl);have HC32:Hid (∀W (s':Bs),s'.bl=s.bl->Bx W w.heap.size s' B->W.cell? ⟨w.heap.size,32,none⟩=some (.slice ab B.bl.length cb)):=Hd (fun W s' e h=>by rw[h.cell 32,<-hvb,<-e];rfl)
 obtain⟨l1,hl1,hrst,htst⟩:=h.st
 obtain⟨l2,hl2,hrqu,htqu⟩:=h.qu
 obtain⟨_,ast,cs,hvs,_⟩:=hrst.form
 obtain⟨_,aq,cq,hvq,_⟩:=hrqu.form
 have en1:l1.length=B.st.length:=by rw[<-hl1,List.length_map]
 have en2:l2.length=B.qu.length:=by rw[<-hl2,List.length_map]
 have HCS:Hid (∀W (s':Bs),s'.st=s.st->Bx W w.heap.size s' B->W.cell? ⟨w.heap.size,29,none⟩=some (.slice ast B.st.length cs)):=Hd (fun W s' e h=>by rw[h.cell 29,<-en1,<-hvs,<-e];rfl);have HCQ:Hid (∀W (s':Bs),s'.qu=s.qu->Bx W w.heap.size s' B->W.cell? ⟨w.heap.size,30,none⟩=some (.slice aq B.qu.length cq)):=Hd (fun W s' e h=>by rw[h.cell 30,<-en2,<-hvq,<-e];rfl);have HRI:Hid (ItR w (.slice ast B.st.length cs) B.st/\ItR w (.slice aq B.qu.length cq) B.qu):=Hd ⟨by rw[<-en1,<-hvs];exact h.st,by rw[<-en2,<-hvq];exact h.qu⟩;have HR:Hid (Rw oc 12 w (.slice ao B.ob.length co) B.ob/\Rw ic 1 w (.slice aa B.att.length ca) B.att/\Rw kc 2 w (.slice ab B.bl.length cb) B.bl):=Hd ⟨by rw[<-hvo];exact h.ob,by rw[<-hva];exact h.att,by rw[<-hvb];exact h.bl⟩;clear h hsm htl hvo hva hvb hl1 hl2 hrst hrqu htst htqu hvs hvq en1 en2;go_enter Tryz.func17,Tryz.ntmps17
 go_upto_region 1 with fail
 change Code.wp Tryz.prog _ _ _ ((w.alloc (.cells (bcells s B) 34)).alloc (.cells (bcells nilS zeroB) 34))
 obtain⟨wz,hwz⟩:∃W,W=(w.alloc (.cells (bcells s B) 34)).alloc (.cells (bcells nilS zeroB) 34):=⟨_,rfl⟩
 have hsz:wz.heap.size=w.heap.size+1+1:=by rw[hwz];simp
 have b1:Below w.heap.size w (w.alloc (.cells (bcells s B) 34)):=(Below.refl _ _).alloc (Nat.le_refl _) _;have b2:Below (w.alloc (.cells (bcells s B) 34)).heap.size (w.alloc (.cells (bcells s B) 34)) wz:=by rw[hwz];exact(Below.refl _ _).alloc (Nat.le_refl _) _
 have HX:Hid (Bx wz w.heap.size s B):=Hd (Bx.below (w:=w.alloc (.cells (bcells s B) 34)) (heap_alloc_new _ _) b2);have HZ:Hid (Bx wz (w.heap.size+1) nilS zeroB):=Hd (by rw[hwz,show w.heap.size+1=(w.alloc (.cells (bcells s B) 34)).heap.size by simp];exact heap_alloc_new _ _);have HB:Hid (Below w.heap.size w wz):=Hd (below_via b1 b2);rw[<-hwz];clear hwz b1 b2;have hsz1:w.heap.size+1+1<=wz.heap.size:=by omega
 clear hsz;have c:=HC0.o _ HX.o;go_wp2_with (at_builtin;refine wpList_append_nil (f:=oc) (sz:=12) rfl _ _ 23 rfl 47 (.agg #[.int .i64 0,.int .i64 0,.int .i64 0,.int .i64 0,.int .i64 0,.int .i64 0,.int .i64 0,.int .i64 0,.int .i64 0,.bool false,.bool false,.bool false]) 80 Tryz.underlying23 infoO rfl (by decide) rfl oc_ok _ _ rfl (HR.o.1.below HB.o) (HSM.o.ob) (by omega) ?_)
 intro oba obc vo ho hb;have HOob:Hid (Ox oc 12 47 _ _ vo _ B.ob):=Hd ho;replace HX:=Hd (HX.o.below hb);replace HZ:=Hd (HZ.o.below hb);replace HB:=Hd (below_via HB.o hb);have hz_vo:=hb.size;clear c ho hb;have c:vo.cell? ⟨w.heap.size,0,none⟩=some (.slice _ _ _):=HX.o.cell 0;have f:=HX.o.free 0
 go_upto_region 2 with fail
 obtain⟨wL,hwL⟩:∃X,X=vo.setCell ⟨w.heap.size,0,none⟩ (.slice oba B.ob.length obc):=⟨_,rfl⟩
 rw[<-hwL];replace HX:Hid (Bx wL w.heap.size {s with ob:=⟨oba,B.ob.length,obc⟩} B):=Hd (by rw[hwL];exact HX.o.put 0 _ rfl);have HN:Hid (Onl [w.heap.size] vo wL):=Hd (by rw[hwL];exact Onl.setCell (Onl.refl _ _) (.inl (by simp)) _);have hz_wL:vo.heap.size<=wL.heap.size:=HN.o.size;clear c f hwL

 replace HOob:=Hd (HOob.o.out HN.o (lo':=w.heap.size+1+1) (hi':=wL.heap.size) (by omega) (by omega) (by omega));replace HZ:=Hd (HZ.o.onl HN.o (by simp));replace HB:=Hd (belowOnl HB.o HN.o (by simp) HB.o.size);have HLO:Hid (w.heap.size+1+1<=wL.heap.size):=Hd (by omega);have HS0:Hid (CpR w wL {s with ob:=⟨oba,B.ob.length,obc⟩} B 0 {s with ob:=⟨oba,B.ob.length,obc⟩} wL.heap.size wL):=Hd (CpR.start HX.o);clear HN hz_vo hz_wL hsz1
 have HRZ:Hid (∀(p z:Nat) (s1:Bs) (hi:Nat) (W:World),p<2->z<4->CpR w wL {s with ob:=⟨oba,B.ob.length,obc⟩} B (4*p+z) s1 hi W->s1.zl p z=s.zl p z):=Hd (fun p z s1 hi W hp hz h=>by
  have h1:=h.todo (4*p+z) (Nat.le_refl _) (by omega);have e:∀q:Bs,q.isl (4*p+z)=q.zl p z:=fun q=>by unfold Bs.isl;rw[if_pos (by omega),show(4*p+z) / 4=p by omega,show(4*p+z)%4=z by omega]
  rw[e,e] at h1
  rw[h1]
  have:(p=0/\z=0)\/(p=0/\z=1)\/(p=0/\z=2)\/(p=0/\z=3)\/(p=1/\z=0)\/(p=1/\z=1)\/(p=1/\z=2)\/(p=1/\z=3):=by omega
  rcases this with⟨rfl,rfl⟩|⟨rfl,rfl⟩|⟨rfl,rfl⟩|⟨rfl,rfl⟩|⟨rfl,rfl⟩|⟨rfl,rfl⟩|⟨rfl,rfl⟩|⟨rfl,rfl⟩<;>rfl)
 go_wp2_with fail
 go_loopw [3] (fun p wr=>CpP w wL {s with ob:=⟨oba,B.ob.length,obc⟩} B p wr) (fun p _=>2-(intOf p).toNat)
 case atStart=>exact⟨0,_,_,by omega,rfl,HS0.o⟩
 obtain⟨p,s0,hi,hp,rfl,hst⟩:=hrel
 have HST:=Hd hst;clear hst HS0
 by_cases hp2:p<2
 ·have i1:(0:Int)<=(p:Int):=by omega
  have i2:(p:Int)<2:=by omega
  clear hp;have hcz0:=HST.o.box.zone hp2 (z:=0) (by omega);have e0:1+p*14+5+0=1+p*14+5:=by omega
  rw[e0] at hcz0
  have HZR0:Hid (Rw ic 1 w (s0.zl p 0).v ((B.seat p).zs 0)):=Hd (by rw[HRZ.o p 0 s0 _ _ hp2 (by omega) HST.o];exact HR0.o.zone p 0);have hpl:=HST.o.box.lt;have hcf:=HST.o.box.free (1+p*14+5)
  obtain⟨⟨sa0,sn0,sc0⟩,hsl⟩:∃q,s0.zl p 0=q:=⟨_,rfl⟩
  rw[hsl] at hcz0 HZR0
  clear hsl;change Hid (Rw ic 1 _ (.slice sa0 sn0 sc0) _) at HZR0
  have HBW:Hid (Below w.heap.size w wr):=Hd (belowOnl HB.o HST.o.onl (by simp) HB.o.size);have HSZ:=Hd (HSM.o.zs p 0);clear e0;go_wp2_with (at_builtin;refine wpList_append_nil (f:=ic) (sz:=1) rfl _ _ 26 rfl 3 (.int .i64 0) 8 Tryz.underlying26 infoI rfl (by decide) rfl ic_ok _ _ rfl (HZR0.o.below HBW.o) (HSZ.o) (by omega) ?_)
  intro k0a k0c v0 ho hb;have ecz:v0.cell? ⟨w.heap.size,1+p*14+5,none⟩=some (.slice sa0 sn0 sc0):=(hb.cell (p:=⟨w.heap.size,1+p*14+5,none⟩) hpl).trans hcz0;have ecf:v0.frozen? ⟨w.heap.size,1+p*14+5,none⟩=false:=(hb.frozen (p:=⟨w.heap.size,1+p*14+5,none⟩) hpl).trans hcf;have HSTEP:=Hd (HST.o.step (p:=p) (z:=0) (by have:=HLO.o;omega) hp2 (by omega) ho hb);clear hcz0 hcf ho hb hpl HBW HSZ
  go_upto_region 7 with fail
  obtain⟨u0,hu0⟩:∃X,X=v0.setCell ⟨w.heap.size,1+p*14+5,none⟩ (.slice k0a ((B.seat p).zs 0).length k0c):=⟨_,rfl⟩
  rw[<-hu0]
  obtain⟨s1,h1⟩:=HSTEP.o
  rw[show 1+p*14+5+0=1+p*14+5 by omega,<-hu0] at h1
  replace HST:=Hd h1;clear hu0 h1 ecz ecf HSTEP;have hcz1:=HST.o.box.zone hp2 (z:=1) (by omega);have e1:1+p*14+5+1=1+p*14+6:=by omega
  rw[e1] at hcz1
  have HZR1:Hid (Rw ic 1 w (s1.zl p 1).v ((B.seat p).zs 1)):=Hd (by rw[HRZ.o p 1 s1 _ _ hp2 (by omega) HST.o];exact HR0.o.zone p 1);have hpl:=HST.o.box.lt;have hcf:=HST.o.box.free (1+p*14+6)
  obtain⟨⟨sa1,sn1,sc1⟩,hsl⟩:∃q,s1.zl p 1=q:=⟨_,rfl⟩
  rw[hsl] at hcz1 HZR1
  clear hsl;change Hid (Rw ic 1 _ (.slice sa1 sn1 sc1) _) at HZR1
  have HBW:Hid (Below w.heap.size w u0):=Hd (belowOnl HB.o HST.o.onl (by simp) HB.o.size);have HSZ:=Hd (HSM.o.zs p 1);clear e1;go_wp2_with (at_builtin;refine wpList_append_nil (f:=ic) (sz:=1) rfl _ _ 26 rfl 3 (.int .i64 0) 8 Tryz.underlying26 infoI rfl (by decide) rfl ic_ok _ _ rfl (HZR1.o.below HBW.o) (HSZ.o) (by omega) ?_)
  intro k1a k1c v1 ho hb;have ecz:v1.cell? ⟨w.heap.size,1+p*14+6,none⟩=some (.slice sa1 sn1 sc1):=(hb.cell (p:=⟨w.heap.size,1+p*14+6,none⟩) hpl).trans hcz1;have ecf:v1.frozen? ⟨w.heap.size,1+p*14+6,none⟩=false:=(hb.frozen (p:=⟨w.heap.size,1+p*14+6,none⟩) hpl).trans hcf;have HSTEP:=Hd (HST.o.step (p:=p) (z:=1) (by have:=HLO.o;omega) hp2 (by omega) ho hb);clear hcz1 hcf ho hb hpl HBW HSZ
  go_upto_region 8 with fail
  obtain⟨u1,hu1⟩:∃X,X=v1.setCell ⟨w.heap.size,1+p*14+6,none⟩ (.slice k1a ((B.seat p).zs 1).length k1c):=⟨_,rfl⟩
  rw[<-hu1]
  obtain⟨s2,h2⟩:=HSTEP.o
  rw[show 1+p*14+5+1=1+p*14+6 by omega,<-hu1] at h2
  replace HST:=Hd h2;clear hu1 h2 ecz ecf HSTEP;have hcz2:=HST.o.box.zone hp2 (z:=2) (by omega);have e2:1+p*14+5+2=1+p*14+7:=by omega
  rw[e2] at hcz2
  have HZR2:Hid (Rw ic 1 w (s2.zl p 2).v ((B.seat p).zs 2)):=Hd (by rw[HRZ.o p 2 s2 _ _ hp2 (by omega) HST.o];exact HR0.o.zone p 2);have hpl:=HST.o.box.lt;have hcf:=HST.o.box.free (1+p*14+7)
  obtain⟨⟨sa2,sn2,sc2⟩,hsl⟩:∃q,s2.zl p 2=q:=⟨_,rfl⟩
  rw[hsl] at hcz2 HZR2
  clear hsl;change Hid (Rw ic 1 _ (.slice sa2 sn2 sc2) _) at HZR2
  have HBW:Hid (Below w.heap.size w u1):=Hd (belowOnl HB.o HST.o.onl (by simp) HB.o.size);have HSZ:=Hd (HSM.o.zs p 2);clear e2;go_wp2_with (at_builtin;refine wpList_append_nil (f:=ic) (sz:=1) rfl _ _ 26 rfl 3 (.int .i64 0) 8 Tryz.underlying26 infoI rfl (by decide) rfl ic_ok _ _ rfl (HZR2.o.below HBW.o) (HSZ.o) (by omega) ?_)
  intro k2a k2c v2 ho hb;have ecz:v2.cell? ⟨w.heap.size,1+p*14+7,none⟩=some (.slice sa2 sn2 sc2):=(hb.cell (p:=⟨w.heap.size,1+p*14+7,none⟩) hpl).trans hcz2;have ecf:v2.frozen? ⟨w.heap.size,1+p*14+7,none⟩=false:=(hb.frozen (p:=⟨w.heap.size,1+p*14+7,none⟩) hpl).trans hcf;have HSTEP:=Hd (HST.o.step (p:=p) (z:=2) (by have:=HLO.o;omega) hp2 (by omega) ho hb);clear hcz2 hcf ho hb hpl HBW HSZ
  go_upto_region 9 with fail
  obtain⟨u2,hu2⟩:∃X,X=v2.setCell ⟨w.heap.size,1+p*14+7,none⟩ (.slice k2a ((B.seat p).zs 2).length k2c):=⟨_,rfl⟩
  rw[<-hu2]
  obtain⟨s3,h3⟩:=HSTEP.o
  rw[show 1+p*14+5+2=1+p*14+7 by omega,<-hu2] at h3
  replace HST:=Hd h3;clear hu2 h3 ecz ecf HSTEP;have hcz3:=HST.o.box.zone hp2 (z:=3) (by omega);have e3:1+p*14+5+3=1+p*14+8:=by omega
  rw[e3] at hcz3
  have HZR3:Hid (Rw ic 1 w (s3.zl p 3).v ((B.seat p).zs 3)):=Hd (by rw[HRZ.o p 3 s3 _ _ hp2 (by omega) HST.o];exact HR0.o.zone p 3);have hpl:=HST.o.box.lt;have hcf:=HST.o.box.free (1+p*14+8)
  obtain⟨⟨sa3,sn3,sc3⟩,hsl⟩:∃q,s3.zl p 3=q:=⟨_,rfl⟩
  rw[hsl] at hcz3 HZR3
  clear hsl;change Hid (Rw ic 1 _ (.slice sa3 sn3 sc3) _) at HZR3
  have HBW:Hid (Below w.heap.size w u2):=Hd (belowOnl HB.o HST.o.onl (by simp) HB.o.size);have HSZ:=Hd (HSM.o.zs p 3);clear e3;go_wp2_with (at_builtin;refine wpList_append_nil (f:=ic) (sz:=1) rfl _ _ 26 rfl 3 (.int .i64 0) 8 Tryz.underlying26 infoI rfl (by decide) rfl ic_ok _ _ rfl (HZR3.o.below HBW.o) (HSZ.o) (by omega) ?_)
  intro k3a k3c v3 ho hb;have ecz:v3.cell? ⟨w.heap.size,1+p*14+8,none⟩=some (.slice sa3 sn3 sc3):=(hb.cell (p:=⟨w.heap.size,1+p*14+8,none⟩) hpl).trans hcz3;have ecf:v3.frozen? ⟨w.heap.size,1+p*14+8,none⟩=false:=(hb.frozen (p:=⟨w.heap.size,1+p*14+8,none⟩) hpl).trans hcf;have HSTEP:=Hd (HST.o.step (p:=p) (z:=3) (by have:=HLO.o;omega) hp2 (by omega) ho hb);clear hcz3 hcf ho hb hpl HBW HSZ
  have HS4:Hid (∃s',CpR w wL {s with ob:=⟨oba,B.ob.length,obc⟩} B (4*(p+1)) s' v3.heap.size (v3.setCell ⟨w.heap.size,1+p*14+8,none⟩ (.slice k3a ((B.seat p).zs 3).length k3c))):=Hd (by
   obtain⟨s',h⟩:=HSTEP.o
   rw[show 1+p*14+5+3=1+p*14+8 by omega] at h
   rw[show 4*(p+1)=4*p+3+1 by omega]
   exact⟨s',h⟩)
  go_wp2_with fail
  go_roundw
  case rel=>
   obtain⟨s',h⟩:=HS4.o
   exact⟨p+1,s',_,by omega,by go_num,h⟩
  case measure=>simp[intOf];omega
 obtain rfl:p=2:=by omega
 obtain⟨s1,hs1⟩:∃s1,s1=s0:=⟨_,rfl⟩
 rw[<-hs1] at HST
 clear hs1;have HRE:Hid (s1.ob=⟨oba,B.ob.length,obc⟩/\s1.st=s.st/\s1.qu=s.qu/\s1.bl=s.bl/\s1.at' =s.at'):=Hd HST.o.rest;have HX:=Hd HST.o.box;have HOil:=Hd HST.o.il;have hh1:=HST.o.h1;have hh2:=HST.o.h2;have hLO:=HLO.o;have HONL:=Hd HST.o.onl;replace HZ:=Hd (HZ.o.onl HONL.o (by simp));replace HB:=Hd (belowOnl HB.o HONL.o (by simp) HB.o.size);replace HOob:=Hd (HOob.o.out HONL.o (lo':=w.heap.size+1+1) (hi':=wr.heap.size) (by omega) (by omega) HONL.o.size);clear HST HONL hp hp2
 go_upto_region 10 with fail
 refine rg17_10 (w0:=wr) (B:=wr.heap.size) (n:=wr.heap.size) (L:=[]) (E:=fun W=>Bx W w.heap.size s1 B) (F:=fun _=>True) (by kernel_rfl) rfl (by kernel_rfl) ⟨⟨by go_grown,by go_size,(by simp[go_sem]<;>omega)⟩,HX.o,fun _ _ h hb=>h.below hb,trivial,fun _ _ _ _=>trivial⟩ (fun w11 K_w11 E_w11 F_w11=> ?_);have _ne:Nonempty (KX (wr.heap.size) wr (wr.heap.size) [] (fun W=>Bx W w.heap.size s1 B)):=⟨⟨_,K_w11,E_w11⟩⟩
 repeat (go_big_quiet_step (fail))
 refine wpQuiet_nil ?_;have ra:∀s:KX (wr.heap.size) wr (wr.heap.size) [] (fun W=>Bx W w.heap.size s1 B),s.val.cell? ⟨w.heap.size,29,none⟩=some (.slice ast B.st.length cs):=fun s=>HCS.o s.val _ HRE.o.2.1 s.ex
 have rb:∀s:KX (wr.heap.size) wr (wr.heap.size) [] (fun W=>Bx W w.heap.size s1 B),s.val.cell? ⟨w.heap.size,30,none⟩=some (.slice aq B.qu.length cq):=fun s=>HCQ.o s.val _ HRE.o.2.2.1 s.ex
 repeat (go_big_quiet_step (fail))
 refine wpQuiet_nil ?_;have KH_w11:=Hd K_w11;have hw_w11:=K_w11.below;have hz_w11:=K_w11.size;clear K_w11;clear E_w11 F_w11
 refine⟨fun K hK0=> ?_,trivial⟩
 have hK:=Hd hK0;clear hK0;replace HX:=Hd (HX.o.below hw_w11);replace HZ:=Hd (HZ.o.below hw_w11);replace HB:=Hd (below_via HB.o hw_w11);have HK:=KH_w11;have hz0_w11:=hw_w11.size;replace HOob:=Hd (HOob.o.below hw_w11);replace HOil:=Hd (HOil.o.below hw_w11);clear hw_w11 hz_w11 KH_w11;go_wp2_with fail
 with_reducible refine(rcopied _ _ _ (HRI.o.1.below HB.o) HSM.o.st HTL.o.st).mono ?_
 rintro e w12 ⟨sta,stc,rfl,ho,hb⟩;have HOst:=Hd ho;replace HK:=Hd (Kept.step HK.o (Nat.le_refl _) hb);have hz0_w12:=hb.size;replace HOob:=Hd (HOob.o.below hb);replace HOil:=Hd (HOil.o.below hb);replace HX:=Hd (HX.o.below hb);replace HZ:=Hd (HZ.o.below hb);replace HB:=Hd (below_via HB.o hb);clear ho hb;go_wp2_with fail
 first|refine⟨rfl,?u,hK.o _ _ ?_⟩|refine⟨?u,hK.o _ _ ?_⟩
 case u=>exact⟨⟨_,HK.o,HX.o⟩,rfl⟩
 clear hK K
 refine⟨fun K hK0=> ?_,trivial⟩
 have hK:=Hd hK0;clear hK0;go_wp2_with fail
 with_reducible refine(rcopied _ _ _ (HRI.o.2.below HB.o) HSM.o.qu HTL.o.qu).mono ?_
 rintro e w13 ⟨qua,quc,rfl,ho,hb⟩;have HOqu:=Hd ho;replace HK:=Hd (Kept.step HK.o (Nat.le_refl _) hb);have hz0_w13:=hb.size;replace HOob:=Hd (HOob.o.below hb);replace HOil:=Hd (HOil.o.below hb);replace HOst:=Hd (HOst.o.below hb);replace HX:=Hd (HX.o.below hb);replace HZ:=Hd (HZ.o.below hb);replace HB:=Hd (below_via HB.o hb);clear ho hb;go_wp2_with fail
 first|refine⟨rfl,hK.o _ _ ?_⟩|refine hK.o _ _ ?_
 clear hK K
 repeat (go_big_quiet_step (fail))
 refine wpQuiet_nil ?_
 refine⟨fun K hK0=> ?_,trivial⟩
 have hK:=Hd hK0;clear hK0;have HN:Hid (Onl [w.heap.size] w13 w13):=Hd (Onl.refl _ _);have c:=HX.o.cell 29;have f:=HX.o.free 29;change w13.cell? ⟨w.heap.size,29,none⟩=some (.slice _ _ _) at c
 go_wp2_with fail
 obtain⟨w14,hw14⟩:∃W,W=w13.setCell ⟨w.heap.size,29,none⟩ (.slice sta B.st.length stc):=⟨_,rfl⟩
 rw[<-hw14];replace HX:Hid (Bx w14 w.heap.size {s1 with st:=⟨sta,B.st.length,stc⟩} B):=Hd (by rw[hw14];exact HX.o.put 29 _ rfl);replace HN:Hid (Onl [w.heap.size] w13 w14):=Hd (by rw[hw14];exact HN.o.setCell (.inl (by simp)) _);clear c f hw14
 first|refine⟨rfl,hK.o _ _ ?_⟩|refine hK.o _ _ ?_
 clear hK K
 repeat (go_big_quiet_step (fail))
 refine wpQuiet_nil ?_
 refine⟨fun K hK0=> ?_,trivial⟩
 have hK:=Hd hK0;clear hK0;have c:=HX.o.cell 30;have f:=HX.o.free 30;change w14.cell? ⟨w.heap.size,30,none⟩=some (.slice _ _ _) at c
 go_wp2_with fail
 obtain⟨w15,hw15⟩:∃W,W=w14.setCell ⟨w.heap.size,30,none⟩ (.slice qua B.qu.length quc):=⟨_,rfl⟩
 rw[<-hw15];replace HX:Hid (Bx w15 w.heap.size {s1 with st:=⟨sta,B.st.length,stc⟩,qu:=⟨qua,B.qu.length,quc⟩} B):=Hd (by rw[hw15];exact HX.o.put 30 _ rfl);replace HN:Hid (Onl [w.heap.size] w13 w15):=Hd (by rw[hw15];exact HN.o.setCell (.inl (by simp)) _);clear c f hw15
 first|refine⟨rfl,hK.o _ _ ?_⟩|refine hK.o _ _ ?_
 clear hK K;clear ra rb;clear _ne;have HNS:Hid (∀b,(Value.slice sta B.st.length stc).ownBlock=some b->(Value.slice qua B.qu.length quc).ownBlock≠some b):=Hd (HOst.o.ne HOqu.o);have hzs:w13.heap.size<=w15.heap.size:=HN.o.size;replace HOob:=Hd (HOob.o.out HN.o (lo':=w.heap.size+1+1) (hi':=w15.heap.size) (by omega) (by omega) (by omega));replace HOst:=Hd (HOst.o.out HN.o (lo':=w.heap.size+1+1) (hi':=w15.heap.size) (by omega) (by omega) (by omega));replace HOqu:=Hd (HOqu.o.out HN.o (lo':=w.heap.size+1+1) (hi':=w15.heap.size) (by omega) (by omega) (by omega));replace HOil:=Hd (HOil.o.onl HN.o (by simp;omega));replace HZ:=Hd (HZ.o.onl HN.o (by simp));replace HB:=Hd (belowOnl HB.o HN.o (by simp) HB.o.size);clear HN HK
 go_upto_region 11 with fail
 have c:=HC31.o _ _ (by exact HRE.o.2.2.2.2) HX.o;go_wp2_with (at_builtin;refine wpList_append_nil (f:=ic) (sz:=1) rfl _ _ 26 rfl 3 (.int .i64 0) 8 Tryz.underlying26 infoI rfl (by decide) rfl ic_ok _ _ rfl (HR.o.2.1.below HB.o) (HSM.o.att) (by omega) ?_)
 intro ata atc va ho hb;have HOat:Hid (Ox ic 1 3 _ _ va _ B.att):=Hd ho;replace HOob:=Hd (HOob.o.below hb);replace HOst:=Hd (HOst.o.below hb);replace HOqu:=Hd (HOqu.o.below hb);replace HOil:=Hd (HOil.o.below hb);replace HX:=Hd (HX.o.below hb);replace HZ:=Hd (HZ.o.below hb);replace HB:=Hd (below_via HB.o hb);have hz_va:=hb.size;clear c ho hb;have c:va.cell? ⟨w.heap.size,31,none⟩=some (.slice _ _ _):=HX.o.cell 31;have f:=HX.o.free 31
 go_upto_region 12 with fail
 obtain⟨ua,hua⟩:∃X,X=va.setCell ⟨w.heap.size,31,none⟩ (.slice ata B.att.length atc):=⟨_,rfl⟩
 rw[<-hua];replace HX:Hid (Bx ua w.heap.size {s1 with st:=⟨sta,B.st.length,stc⟩,qu:=⟨qua,B.qu.length,quc⟩,at':=⟨ata,B.att.length,atc⟩} B):=Hd (by rw[hua];exact HX.o.put 31 _ rfl);have HN:Hid (Onl [w.heap.size] va ua):=Hd (by rw[hua];exact Onl.setCell (Onl.refl _ _) (.inl (by simp)) _);have hz_ua:va.heap.size<=ua.heap.size:=HN.o.size;clear c f hua;replace HOob:=Hd (HOob.o.out HN.o (lo':=w.heap.size+1+1) (hi':=ua.heap.size) (by omega) (by omega) (by omega));replace HOst:=Hd (HOst.o.out HN.o (lo':=w.heap.size+1+1) (hi':=ua.heap.size) (by omega) (by omega) (by omega));replace HOqu:=Hd (HOqu.o.out HN.o (lo':=w.heap.size+1+1) (hi':=ua.heap.size) (by omega) (by omega) (by omega));replace HOat:=Hd (HOat.o.out HN.o (lo':=w15.heap.size) (hi':=ua.heap.size) (by omega) (by omega) (by omega));replace HOil:=Hd (HOil.o.onl HN.o (by simp;omega));replace HZ:=Hd (HZ.o.onl HN.o (by simp));replace HB:=Hd (belowOnl HB.o HN.o (by simp) HB.o.size);clear HN;have c:=HC32.o _ _ (by exact HRE.o.2.2.2.1) HX.o;go_wp2_with (at_builtin;refine wpList_append_nil (f:=kc) (sz:=2) rfl _ _ 31 rfl 89 (.agg #[.int .i64 0,.int .i64 0]) 16 Tryz.underlying31 infoK rfl (by decide) rfl kc_ok _ _ rfl (HR.o.2.2.below HB.o) (HSM.o.bl) (by omega) ?_)
 intro bla blc vb ho hb;have HObl:Hid (Ox kc 2 89 _ _ vb _ B.bl):=Hd ho;replace HOob:=Hd (HOob.o.below hb);replace HOst:=Hd (HOst.o.below hb);replace HOqu:=Hd (HOqu.o.below hb);replace HOil:=Hd (HOil.o.below hb);replace HOat:=Hd (HOat.o.below hb);replace HX:=Hd (HX.o.below hb);replace HZ:=Hd (HZ.o.below hb);replace HB:=Hd (below_via HB.o hb);have hz_vb:=hb.size;clear c ho hb;have c:vb.cell? ⟨w.heap.size,32,none⟩=some (.slice _ _ _):=HX.o.cell 32;have f:=HX.o.free 32
 go_upto_region 13 with fail
 obtain⟨ub,hub⟩:∃X,X=vb.setCell ⟨w.heap.size,32,none⟩ (.slice bla B.bl.length blc):=⟨_,rfl⟩
 rw[<-hub];replace HX:Hid (Bx ub w.heap.size {s1 with st:=⟨sta,B.st.length,stc⟩,qu:=⟨qua,B.qu.length,quc⟩,at':=⟨ata,B.att.length,atc⟩,bl:=⟨bla,B.bl.length,blc⟩} B):=Hd (by rw[hub];exact HX.o.put 32 _ rfl);have HN:Hid (Onl [w.heap.size] vb ub):=Hd (by rw[hub];exact Onl.setCell (Onl.refl _ _) (.inl (by simp)) _);have hz_ub:vb.heap.size<=ub.heap.size:=HN.o.size;clear c f hub;replace HOob:=Hd (HOob.o.out HN.o (lo':=w.heap.size+1+1) (hi':=ub.heap.size) (by omega) (by omega) (by omega));replace HOst:=Hd (HOst.o.out HN.o (lo':=w.heap.size+1+1) (hi':=ub.heap.size) (by omega) (by omega) (by omega));replace HOqu:=Hd (HOqu.o.out HN.o (lo':=w.heap.size+1+1) (hi':=ub.heap.size) (by omega) (by omega) (by omega));replace HOat:=Hd (HOat.o.out HN.o (lo':=w15.heap.size) (hi':=ub.heap.size) (by omega) (by omega) (by omega));replace HObl:=Hd (HObl.o.out HN.o (lo':=w.heap.size+1+1) (hi':=ub.heap.size) (by omega) (by omega) (by omega));replace HOil:=Hd (HOil.o.onl HN.o (by simp;omega));replace HZ:=Hd (HZ.o.onl HN.o (by simp));replace HB:=Hd (belowOnl HB.o HN.o (by simp) HB.o.size);clear HN
 have HFIN:Hid (BdO (w.heap.size+1+1) ub.heap.size ub {s1 with st:=⟨sta,B.st.length,stc⟩,qu:=⟨qua,B.qu.length,quc⟩,at':=⟨ata,B.att.length,atc⟩,bl:=⟨bla,B.bl.length,blc⟩} B):=Hd (by
  have hil2:Il wL.heap.size hi ub {s1 with st:=⟨sta,B.st.length,stc⟩,qu:=⟨qua,B.qu.length,quc⟩,at':=⟨ata,B.att.length,atc⟩,bl:=⟨bla,B.bl.length,blc⟩} B 8:=⟨fun j hj=>by
   have:=HOil.o.il j hj
   unfold Bs.isl at this ⊢
   rw[if_pos hj] at this ⊢
   exact this,fun i j hi2 hj=>by
   have:=HOil.o.nd i j hi2 hj
   unfold Bs.isl at this ⊢
   rw[if_pos hi2,if_pos hj] at this ⊢
   exact this⟩
  have hil:=hil2.last HOat.o (.inl (by omega)) (l:=w.heap.size+1+1) (u:=ub.heap.size) ⟨by omega,by omega⟩ ⟨by omega,by omega⟩
  exact⟨by show Ox oc 12 47 _ _ _ s1.ob.v _;rw[HRE.o.1];exact HOob.o,hil.il,hil.nd,HOst.o,HOqu.o,HNS.o,HObl.o⟩)
 go_wp2_with (first|(refine wpList_load_bx _ rfl rfl HX.o (by kernel_rfl) ?_)|(refine wpList_store_bx rfl _ _ rfl rfl rfl HZ.o rfl ?_;intro w9 hw9))
 have hg9:Bx w9 (w.heap.size+1) {s1 with st:=⟨sta,B.st.length,stc⟩,qu:=⟨qua,B.qu.length,quc⟩,at':=⟨ata,B.att.length,atc⟩,bl:=⟨bla,B.bl.length,blc⟩} B:=by rw[hw9];exact Bx.row HZ.o _ B
 have ho9:Onl [w.heap.size+1] ub w9:=by rw[hw9];exact Onl.setRow (Onl.refl _ _) (.inl (by simp)) _
 have hb9:Below w.heap.size w w9:=belowOnl HB.o ho9 (by simp) HB.o.size;have hf9:=HFIN.o.keep (fun k a _=>ho9.block k (by omega) (by simp;omega));have HG9:=Hd hg9;have HPOST:Hid (CpA w B (.returned (bv {s1 with st:=⟨sta,B.st.length,stc⟩,qu:=⟨qua,B.qu.length,quc⟩,at':=⟨ata,B.att.length,atc⟩,bl:=⟨bla,B.bl.length,blc⟩} B)) w9):=Hd ⟨_,rfl,hf9.mono (by omega) ho9.size,hb9⟩;clear hw9 hg9 ho9 hb9 hf9;go_wp2_with fail
 exact bodyPost_ret (v:=bv {s1 with st:=⟨sta,B.st.length,stc⟩,qu:=⟨qua,B.qu.length,quc⟩,at':=⟨ata,B.att.length,atc⟩,bl:=⟨bla,B.bl.length,blc⟩} B) (results_cell_row Tryz.results17 _ _ _ _ _ _ _ rfl HG9.o Tryz.underlying34 rfl (by kernel_rfl)) rfl HPOST.o
end Go.Proofs.YtpbepnpnpopmfaaGreat
