/- An object is reset, by the code. An object moves to the grave, by the code. An object moves to the grave, by the code: the walk. -/
import Derived.Test.YtpbepnpnpopmfaaGreatTSe
import Derived.Deep.DeepCutAuto
import Derived.LoopTactic
import Derived.Deep.MidRow
import Derived.Test.YtpbepnpnpopmfaaGreatUOu
import Derived.Test.YtpbepnpnpopmfaaGreatTMv
open Go.RowKit Go.Proofs.YtpbepnpnpopmfaaGreat
set_option maxRecDepth 100000
set_option maxHeartbeats 4000000
namespace Go.Proofs.YtpbepnpnpopmfaaGreat
open Plain
set_option linter.unusedVariables false
set_option linter.unusedSimpArgs false

theorem orest(x:Ob)(w:World):Calls Tryz.prog 111 #[.agg (oc x).toArray] w fun e w' =>e= .returned (.agg (oc (rtO x)).toArray)/\Below w.heap.size w w':=by
 go_enter Tryz.func111,Tryz.ntmps111
 go_upto_region 1 with fail
 change Code.wp Tryz.prog _ _ _ ((w.alloc (.cells (oc x).toArray 47)).alloc (.cells (oc zob).toArray 47))
 obtain⟨wz,hwz⟩:∃W,W=(w.alloc (.cells (oc x).toArray 47)).alloc (.cells (oc zob).toArray 47):=⟨_,rfl⟩
 rw[<-hwz];have b0:Below w.heap.size w (w.alloc (.cells (oc x).toArray 47)):=(Below.refl _ _).alloc (Nat.le_refl _) _;have b1:Below (w.alloc (.cells (oc x).toArray 47)).heap.size (w.alloc (.cells (oc x).toArray 47)) wz:=by rw[hwz];exact(Below.refl _ _).alloc (Nat.le_refl _) _
 have HB:Hid (Below w.heap.size w wz):=Hd (below_via b0 b1);have HXo:Hid (wz.heap[w.heap.size]? =some (.cells (oc x).toArray 47 (0,0))):=Hd (Ro.below (Ro.new w _ 47) b1);have HXz:Hid (wz.heap[w.heap.size+1]? =some (.cells (oc zob).toArray 47 (0,0))):=Hd (by rw[hwz,show w.heap.size+1=(w.alloc (.cells (oc x).toArray 47)).heap.size by simp];exact heap_alloc_new _ _);clear hwz b0 b1;have c5:wz.cell? ⟨w.heap.size,5,none⟩=some (.int .i64 x.da):=by rw[cell_of_row wz w.heap.size 5 _ 47 (0,0) HXo.o];rfl
 have f5:wz.frozen? ⟨w.heap.size,5,none⟩=false:=by unfold World.frozen?;rw[HXo.o];simp
 have c7:wz.cell? ⟨w.heap.size,7,none⟩=some (.int .i64 x.pp):=by rw[cell_of_row wz w.heap.size 7 _ 47 (0,0) HXo.o];rfl
 have f7:wz.frozen? ⟨w.heap.size,7,none⟩=false:=by unfold World.frozen?;rw[HXo.o];simp
 have c8:wz.cell? ⟨w.heap.size,8,none⟩=some (.int .i64 x.pt):=by rw[cell_of_row wz w.heap.size 8 _ 47 (0,0) HXo.o];rfl
 have f8:wz.frozen? ⟨w.heap.size,8,none⟩=false:=by unfold World.frozen?;rw[HXo.o];simp
 go_upto_region 2 with fail
 obtain⟨w1,hw⟩:∃X,X=(((wz.setCell ⟨w.heap.size,5,none⟩ (.int .i64 0)).setCell ⟨w.heap.size,7,none⟩ (.int .i64 0)).setCell ⟨w.heap.size,8,none⟩ (.int .i64 0)):=⟨_,rfl⟩
 rw[<-hw];have hon:Onl [w.heap.size] wz w1:=by rw[hw];exact((((Onl.refl _ _).setCell (.inl (by simp)) _).setCell (.inl (by simp)) _).setCell (.inl (by simp)) _)
 replace HXo:Hid (w1.heap[w.heap.size]? =some (.cells (oc (rtO x)).toArray 47 (0,0))):=Hd (by rw[hw];exact(ob_put (x':=rtO x) (ob_put (x':={{x with da:=0} with pp:=0}) (ob_put (x':={x with da:=0}) HXo.o 5 _ rfl) 7 _ rfl) 8 _ rfl));replace HXz:Hid (w1.heap[w.heap.size+1]? =some (.cells (oc zob).toArray 47 (0,0))):=Hd (Ro.onl HXz.o hon (by simp));replace HB:=Hd (belowOnl HB.o hon (by simp) HB.o.size);clear hw hon c5 f5 c7 f7 c8 f8;go_wp2_with (first|(refine wpList_load_o (rtO x) _ rfl rfl HXo.o (by kernel_rfl) ?_)|(refine wpList_store_o rfl (rtO x) _ _ rfl rfl rfl HXz.o rfl ?_))
 intro w9 hw9;have ho9:Onl [w.heap.size+1] w1 w9:=by rw[hw9.out];exact Onl.setRow (Onl.refl _ _) (.inl (by simp)) _
 have HG9:Hid (w9.heap[w.heap.size+1]? =some (.cells (oc (rtO x)).toArray 47 (0,0))):=Hd (by rw[hw9.out];exact setRow_heap _ _ _ _ 47 _ HXz.o);have HB9:Hid (Below w.heap.size w w9):=Hd (belowOnl HB.o ho9 (by simp) HB.o.size);clear hw9 ho9;go_wp2_with fail
 exact bodyPost_ret (v:= .agg (oc (rtO x)).toArray) (results_o0 Tryz.results111 _ _ (rtO x) HG9.o rfl) rfl ⟨rfl,HB9.o⟩
theorem oreset(x:Ob)(z:Int)(w:World):Calls Tryz.prog 92 #[.agg (oc x).toArray,.int .i64 z] w fun e w' =>e= .returned (.agg (oc (rsO x z)).toArray)/\Below w.heap.size w w':=by
 go_enter Tryz.func92,Tryz.ntmps92
 go_upto_region 1 with fail
 change Code.wp Tryz.prog _ _ _ ((w.alloc (.cells (oc x).toArray 47)).alloc (.cells (oc zob).toArray 47))
 obtain⟨wz,hwz⟩:∃W,W=(w.alloc (.cells (oc x).toArray 47)).alloc (.cells (oc zob).toArray 47):=⟨_,rfl⟩
 rw[<-hwz];have b0:Below w.heap.size w (w.alloc (.cells (oc x).toArray 47)):=(Below.refl _ _).alloc (Nat.le_refl _) _;have b1:Below (w.alloc (.cells (oc x).toArray 47)).heap.size (w.alloc (.cells (oc x).toArray 47)) wz:=by rw[hwz];exact(Below.refl _ _).alloc (Nat.le_refl _) _
 have HB:Hid (Below w.heap.size w wz):=Hd (below_via b0 b1);have HXo:Hid (wz.heap[w.heap.size]? =some (.cells (oc x).toArray 47 (0,0))):=Hd (Ro.below (Ro.new w _ 47) b1);have HXz:Hid (wz.heap[w.heap.size+1]? =some (.cells (oc zob).toArray 47 (0,0))):=Hd (by rw[hwz,show w.heap.size+1=(w.alloc (.cells (oc x).toArray 47)).heap.size by simp];exact heap_alloc_new _ _);clear hwz b0 b1;go_wp2_with (refine wpList_load_o x _ rfl rfl HXo.o (by kernel_rfl) ?_)
 with_reducible refine(orest x _).mono ?_
 rintro e w1 ⟨rfl,hb⟩;have hzz:=Ro.lt HXz.o;have hnl:w.heap.size+1<w1.heap.size:=Nat.lt_of_lt_of_le hzz hb.size;replace HB:=Hd (below_via HB.o hb);replace HXz:Hid (w1.heap[w.heap.size+1]? =some (.cells (oc zob).toArray 47 (0,0))):=Hd (Ro.below HXz.o hb);clear hb HXo hzz;go_wp2_with (refine wpList_store_o rfl (rtO x) _ _ rfl rfl rfl (heap_alloc_new _ _) rfl ?_)
 intro w2 hw2;have hbx:=boxed_o hw2.out
 obtain⟨nR,hnR⟩:∃n,n=w1.heap.size:=⟨_,rfl⟩
 rw[<-hnR] at hbx hnl ⊢
 have HXo:Hid (w2.heap[nR]? =some (.cells (oc (rtO x)).toArray 47 (0,0))):=Hd hbx.2;have hb2:=hbx.1;rw[hnR] at hb2
 replace HXz:Hid (w2.heap[w.heap.size+1]? =some (.cells (oc zob).toArray 47 (0,0))):=Hd (Ro.below HXz.o hb2);replace HB:=Hd (below_via HB.o hb2);clear hw2 hbx hb2 hnR;have c6:w2.cell? ⟨nR,6,none⟩=some (.int .i64 x.co):=by rw[cell_of_row w2 nR 6 _ 47 (0,0) HXo.o];rfl
 have f6:w2.frozen? ⟨nR,6,none⟩=false:=by unfold World.frozen?;rw[HXo.o];simp
 have c9:w2.cell? ⟨nR,9,none⟩=some (.bool x.ta):=by rw[cell_of_row w2 nR 9 _ 47 (0,0) HXo.o];rfl
 have f9:w2.frozen? ⟨nR,9,none⟩=false:=by unfold World.frozen?;rw[HXo.o];simp
 have c11:w2.cell? ⟨nR,11,none⟩=some (.bool x.dm):=by rw[cell_of_row w2 nR 11 _ 47 (0,0) HXo.o];rfl
 have f11:w2.frozen? ⟨nR,11,none⟩=false:=by unfold World.frozen?;rw[HXo.o];simp
 have c10:w2.cell? ⟨nR,10,none⟩=some (.bool x.si):=by rw[cell_of_row w2 nR 10 _ 47 (0,0) HXo.o];rfl
 have f10:w2.frozen? ⟨nR,10,none⟩=false:=by unfold World.frozen?;rw[HXo.o];simp
 go_upto_region 3 with fail
 obtain⟨w3,hw⟩:∃X,X=((((w2.setCell ⟨nR,6,none⟩ (.int .i64 0)).setCell ⟨nR,9,none⟩ (.bool false)).setCell ⟨nR,11,none⟩ (.bool false)).setCell ⟨nR,10,none⟩ (.bool (z==2))):=⟨_,rfl⟩
 rw[<-hw];have hon:Onl [nR] w2 w3:=by rw[hw];exact(((((Onl.refl _ _).setCell (.inl (by simp)) _).setCell (.inl (by simp)) _).setCell (.inl (by simp)) _).setCell (.inl (by simp)) _)
 replace HXo:Hid (w3.heap[nR]? =some (.cells (oc (rsO x z)).toArray 47 (0,0))):=Hd (by rw[hw];exact(ob_put (x':=rsO x z) (ob_put (x':={{{rtO x with co:=0} with ta:=false} with dm:=false}) (ob_put (x':={{rtO x with co:=0} with ta:=false}) (ob_put (x':={rtO x with co:=0}) HXo.o 6 _ rfl) 9 _ rfl) 11 _ rfl) 10 _ rfl));replace HXz:Hid (w3.heap[w.heap.size+1]? =some (.cells (oc zob).toArray 47 (0,0))):=Hd (Ro.onl HXz.o hon (by simp;omega));replace HB:=Hd (belowOnl HB.o hon (by simp;omega) HB.o.size);clear hw hon c6 f6 c9 f9 c11 f11 c10 f10;go_wp2_with (first|(refine wpList_load_o (rsO x z) _ rfl rfl HXo.o (by kernel_rfl) ?_)|(refine wpList_store_o rfl (rsO x z) _ _ rfl rfl rfl HXz.o rfl ?_))
 intro w9 hw9;have ho9:Onl [w.heap.size+1] w3 w9:=by rw[hw9.out];exact Onl.setRow (Onl.refl _ _) (.inl (by simp)) _
 have HG9:Hid (w9.heap[w.heap.size+1]? =some (.cells (oc (rsO x z)).toArray 47 (0,0))):=Hd (by rw[hw9.out];exact setRow_heap _ _ _ _ 47 _ HXz.o);have HB9:Hid (Below w.heap.size w w9):=Hd (belowOnl HB.o ho9 (by simp) HB.o.size);clear hw9 ho9;go_wp2_with fail
 exact bodyPost_ret (v:= .agg (oc (rsO x z)).toArray) (results_o0 Tryz.results92 _ _ (rsO x z) HG9.o rfl) rfl ⟨rfl,HB9.o⟩
end Go.Proofs.YtpbepnpnpopmfaaGreat
namespace Go.Proofs.YtpbepnpnpopmfaaGreat
open Plain
set_option linter.unusedVariables false
set_option linter.unusedSimpArgs false

theorem BdO.appZ{lo hi:Nat}{w w':World}{s:Bs}{B:Bd}(h:BdO lo hi w s B)(hs:hi<=w.heap.size){p z:Nat}(hp:p<2)(hz:z<4)(v:Sl)(l':List Int)(hg:w.grownBy w' (s.isl (4*p+z)).v.ownBlock)(hv:Ox ic 1 3 lo w'.heap.size w' v.v l')(hw:v.v.ownBlock=(s.isl (4*p+z)).v.ownBlock\/∃k,v.v.ownBlock=some k/\w.heap.size<=k):BdO lo w'.heap.size w' (s.setZ p z v) (B.setL p z l'):=by
 have hj:4*p+z<9:=by omega
 have hh:hi<=w'.heap.size:=Nat.le_trans hs hg.size;have ht:∀b,(s.isl (4*p+z)).v.ownBlock=some b->∃cur,w.heap[b]? =some (.cells cur 3 (0,0)):=fun b hb=>((h.il _ hj).1.typ b hb).2.2
 obtain⟨r1,r2,r3,r4,r5⟩:=setZ_rest s v hp hz
 obtain⟨g1,g2,g3,g4⟩:=setL_rest B l' hp hz
 have hi2:∀{v:Value} {L:List It},ItO lo hi w v L->ItO lo w'.heap.size w' v L:=fun h=>by
  obtain⟨l0,e1,e2,e3⟩:=h
  exact⟨l0,e1,e2.other hg ht (by decide) hh,fun x hx=>(e3 x hx).map (fun h=>h.other hg ht (by decide) hh)⟩
 have ho:∀j,j<9->j≠4*p+z->∀b,(s.isl j).v.ownBlock=some b->v.v.ownBlock≠some b:=fun j hj9 hne b hb e=>by
  rcases hw with h1|⟨k,h1,h2⟩
  ·exact h.nd j _ hj9 hj hne b hb (h1▸e)
  have h3:=((h.il j hj9).blk hb).2.1;rw[h1] at e
  have:=Option.some.inj e
  omega
 refine⟨?_,fun j hj9=> ?_,fun i j hi9 hj9 hne b hb=> ?_,?_,?_,?_,?_⟩
 ·rw[r1,g1];exact h.ob.other hg ht (by decide) hh
 ·rw[setZ_isl s _ hp hz hj9,setL_il B l' hp hz hj9]
  by_cases e:j=4*p+z
  ·rw[if_pos e,if_pos e];exact hv
  rw[if_neg e,if_neg e]
  exact((h.il j hj9).keep (fun k _ _ hb=>hg.block k ((h.il j hj9).blk hb).2.2 (fun e1=>h.nd j _ hj9 hj e k hb e1.symm))).mono (Nat.le_refl _) hh
 ·rw[setZ_isl s _ hp hz hi9] at hb
  rw[setZ_isl s _ hp hz hj9]
  by_cases e:i=4*p+z
  ·rw[if_pos e] at hb
   rw[if_neg (fun e2=>hne (e.trans e2.symm))];exact fun h1=>ho j hj9 (fun e2=>hne (e.trans e2.symm)) b h1 hb
  rw[if_neg e] at hb
  by_cases e2:j=4*p+z
  ·rw[if_pos e2];exact ho i hi9 e b hb
  rw[if_neg e2];exact h.nd i j hi9 hj9 hne b hb
 ·rw[r2,g2];exact hi2 h.st
 ·rw[r3,g3];exact hi2 h.qu
 ·rw[r2,r3];exact h.ns
 rw[r4,g4];exact h.bl.other hg ht (by decide) hh
def Bo(w:World)(P:Nat)(C:Array Value):Prop:=Ro w P C 47
theorem Bo.below{w w':World}{P:Nat}{C:Array Value}(h:Bo w P C)(hb:Below w.heap.size w w'):Bo w' P C:=Ro.below h hb
theorem idx43(P off:Nat)(w:World):(Instr.index 118 (ptr4 P off) (.int .i64 3)).run Tryz.prog w= .ok (.pointer (some ⟨P,off+8,none⟩)) w:=idx4 P off (z:=3) (by omega) w
theorem ix_at{B:Bd}{k k':Nat}{x x':Ob}(h:VB B)(hk:B.ob[k]? =some x)(hk':B.ob[k']? =some x')(he:x'.id=x.id):k' =k:=by
 have hn:=VB.ids h;have e1:(B.ob.map Ob.id)[k]? =some x.id:=by rw[List.getElem?_map,hk];rfl
 have e2:(B.ob.map Ob.id)[k']? =some x.id:=by rw[List.getElem?_map,hk',<-he];rfl
 have l1:=(List.getElem?_eq_some_iff.1 e1);have l2:=(List.getElem?_eq_some_iff.1 e2)
 obtain⟨a1,b1⟩:=l1
 obtain⟨a2,b2⟩:=l2
 rcases Nat.lt_trichotomy k k' with h|h|h
 ·exact absurd (b1.trans b2.symm) (List.pairwise_iff_getElem.1 hn k k' a1 a2 h)
 ·exact h.symm
 exact absurd (b2.trans b1.symm) (List.pairwise_iff_getElem.1 hn k' k a2 a1 h)
end Go.Proofs.YtpbepnpnpopmfaaGreat
namespace Go.Proofs.YtpbepnpnpopmfaaGreat
open Plain
set_option linter.unusedVariables false
set_option linter.unusedSimpArgs false

theorem bmove(s:Bs)(B:Bd)(k:Nat)(x:Ob)(p:Nat)(w:World)(h:BdR w s B)(hv:VB B)(hk:B.ob[k]? =some x)(how:x.ow=(p:Nat))(hp:p<2)(hid:Plain.I x.id):Calls Tryz.prog 66 #[bv s B,.int .i64 x.id,.int .i64 3] w (BrA w (mvB B k x p 3) (.int .i64 0)):=by
 have HR:=Hd h;have HV:=Hd hv;have HKX:=Hd hk;have HOWN:=Hd how;have HPP:=Hd hp;have HID:=Hd hid;clear h hv hk how hp hid;go_enter Tryz.func66,Tryz.ntmps66
 go_upto_region 1 with fail
 change Code.wp Tryz.prog _ _ _ ((w.alloc (.cells (bcells s B) 34)).alloc (.cells (bcells nilS zeroB) 34))
 obtain⟨wz,hwz⟩:∃W,W=((w.alloc (.cells (bcells s B) 34)).alloc (.cells (bcells nilS zeroB) 34)):=⟨_,rfl⟩
 rw[<-hwz];have b0:Below w.heap.size w (w.alloc (.cells (bcells s B) 34)):=by exact(Below.refl _ _).alloc (Nat.le_refl _) _
 have b1:Below (w.alloc (.cells (bcells s B) 34)).heap.size (w.alloc (.cells (bcells s B) 34)) wz:=by rw[hwz];exact(Below.refl _ _).alloc (Nat.le_refl _) _
 have HB:Hid (Below w.heap.size w wz):=Hd (below_via b0 b1);have HXb:Hid (Bx wz (w.heap.size) s B):=Hd ((Ro.new w (bcells s B) 34).below b1:Ro _ _ _ _);have HXz:Hid (Bx wz (w.heap.size+1) nilS zeroB):=Hd (by rw[show w.heap.size+1=(w.alloc (.cells (bcells s B) 34)).heap.size by simp];exact(by rw[hwz];exact(Ro.new (w.alloc (.cells (bcells s B) 34)) (bcells nilS zeroB) 34)));have HC1:Hid (w.heap.size+2<=wz.heap.size):=Hd (by rw[hwz];simp);clear hwz b0 b1;go_wp2_with (first|(refine wpList_load_bx _ rfl rfl HXb.o (by kernel_rfl) ?_))
 with_reducible refine(bindex s B x.id _ (HR.o.below HB.o) HV.o.i HV.o.sm HID.o).mono ?_
 rintro e w1 ⟨hA,hb⟩;have HC2:Hid (wz.heap.size<=w1.heap.size):=Hd (hb.size);replace HB:=Hd (below_via HB.o hb);replace HXb:=Hd (HXb.o.below hb);replace HXz:=Hd (HXz.o.below hb);clear hb
 obtain rfl:e= .returned (.tuple #[.int .i64 k,.int .i64 0]):=by
  rcases hA with⟨_,k',x',h1,h2,h3⟩|⟨_,h1,_⟩|⟨h1,_⟩
  ·rw[ix_at HV.o HKX.o h1 h2] at h3;exact h3
  ·exact absurd rfl (h1 x (List.mem_of_getElem? HKX.o))
  exact absurd HV.o h1
 clear hA;go_wp2_with fail
 with_reducible refine(withinc 3 0 3 true _ (by decide)).mono ?_
 rintro e v2 ⟨rfl,rfl⟩
 go_upto_region 6 with fail
 go_wp2_with (first|(refine wpList_load_bx _ rfl rfl HXb.o (by kernel_rfl) ?_))
 with_reducible refine(bout s B x.id _ (HR.o.below HB.o) HV.o).mono ?_
 rintro e w2 ⟨sc,rfl,ho,hb⟩;have HC3:Hid (w1.heap.size<=w2.heap.size):=Hd (hb.size);replace HB:=Hd (below_via HB.o hb);replace HXb:=Hd (HXb.o.below hb);replace HXz:=Hd (HXz.o.below hb);have HOc:=Hd ho;clear ho hb;go_wp2_with (first|(refine wpList_store_bh (s:=sc) (B:=(outB B x.id)) rfl _ _ rfl rfl rfl HXb.o rfl ?_))
 intro w3 hw0;have hon:Onl [w.heap.size] w2 w3:=by rw[hw0.out];exact Onl.setRow (Onl.refl _ _) (.inl (by simp)) _
 have hx:Bx w3 (w.heap.size) sc ((outB B x.id)):=by rw[hw0.out];exact Bx.row HXb.o _ _
 clear hw0;have hlo:w.heap.size<=w.heap.size:=by(have o0:=HC1.o;have o1:=HC2.o;have o2:=HC3.o;have x0:=HXb.o.lt;have x1:=HXz.o.lt;omega)
 have hls:w.heap.size<=w2.heap.size:=HB.o.size;replace HB:=Hd (belowOnl HB.o hon (by simp only[List.mem_singleton,forall_eq];exact hlo) hls);replace HXz:=Hd (HXz.o.onl hon (by simp only[List.mem_singleton];(have o0:=HC1.o;have o1:=HC2.o;have o2:=HC3.o;have x0:=HXb.o.lt;have x1:=HXz.o.lt;omega)));replace HOc:=Hd (HOc.o.onlB hon HXb.o);have HC4:Hid (w2.heap.size<=w3.heap.size):=Hd (hon.size);clear hlo hls;replace HXb:=Hd hx;clear hx hon;have hkl:k<B.ob.length:=(List.getElem?_eq_some_iff.1 HKX.o).1
 obtain⟨g,gc,hov,hg1,hg2,hg3⟩:=Ox.pos HOc.o.ob (by exact Nat.lt_of_le_of_lt (Nat.zero_le _) hkl)
 have hox:=HOc.o.ob;rw[hov] at hox
 have hrg:w3.rangeAt g (k*12) (oc x):=Ox.range hox oc_len HKX.o;have HRG:=Hd hrg;have HOV:=Hd hov;have HGG:Hid (w1.heap.size<=g/\g<w2.heap.size):=Hd ⟨hg1,hg2⟩
 have c0:w3.cell? ⟨w.heap.size,0,none⟩=some (.slice (some ⟨g,0,none⟩) B.ob.length gc):=by
  rw[HXb.o.cell 0];exact congrArg some hov
 have i1:(0:Int)<=(k:Int):=by omega
 have i2:(k:Int)<(B.ob.length:Int):=by omega
 have HKL:=Hd hkl;clear hov hox hrg hg1 hg2 hg3;go_wp2_with (first|(refine wpList_load_mid rfl 47 _ rfl g (k*12) rfl (oc x) _ HRG.o Tryz.underlying47 rfl rfl ?_))
 with_reducible refine(oreset x 3 _).mono ?_
 rintro e w4 ⟨rfl,hb⟩;have HC5:Hid (w3.heap.size<=w4.heap.size):=Hd (hb.size);replace HB:=Hd (below_via HB.o hb);replace HXb:=Hd (HXb.o.below hb);replace HXz:=Hd (HXz.o.below hb);replace HOc:=Hd (HOc.o.below hb);clear hb c0 HRG;go_wp2_with (refine wpList_store_o rfl (rsO x 3) _ _ rfl rfl rfl (heap_alloc_new _ _) rfl ?_)
 intro w5 hw0;have hbx:=boxed_o hw0.out
 obtain⟨nT,hn⟩:∃n,n=w4.heap.size:=⟨_,rfl⟩
 rw[<-hn] at hbx ⊢
 have hb:=hbx.1;rw[hn] at hb
 clear hw0;replace HB:=Hd (below_via HB.o hb);replace HXb:=Hd (HXb.o.below hb);replace HXz:=Hd (HXz.o.below hb);replace HOc:=Hd (HOc.o.below hb);have HT:Hid (Ro w5 nT (oc (rsO x 3)).toArray 47):=Hd hbx.2;have HC6:Hid (w4.heap.size<=nT/\nT<w5.heap.size):=Hd (⟨by omega,Ro.lt hbx.2⟩);clear hbx hn hb
 have HTH:Hid (w5.there g (k*12) 12):=Hd (by
  have h1:=HOc.o.ob;rw[HOV.o] at h1
  exact h1.there oc_len _ _ (by rw[<-Nat.succ_mul];exact Nat.mul_le_mul_right _ HKL.o))
 have c0:w5.cell? ⟨w.heap.size,0,none⟩=some (.slice (some ⟨g,0,none⟩) B.ob.length gc):=by
  rw[HXb.o.cell 0];exact congrArg some HOV.o
 go_wp2_with (first|(refine wpList_load_o (rsO x 3) _ rfl rfl HT.o (by kernel_rfl) ?_)|(refine wpList_store_mh rfl 47 _ _ rfl g (k*12) (oc (rsO x 3)).toArray rfl rfl HTH.o rfl (arr_one (oc_ok (rsO x 3)).2) ?_))
 intro w9 hw9;have hbo:BdO w1.heap.size w2.heap.size w9 sc (moB B k x 3):=HOc.o.setO (w':=w9) HOV.o k (rsO x 3) HKL.o hw9.out;have hon:Onl [g] w5 w9:=by rw[hw9.out];exact Onl.setCells _ _ _ (Onl.refl _ _) (.inl (by simp))
 have hgb:w1.heap.size<=g/\g<w2.heap.size:=HGG.o;replace HOc:=Hd hbo;replace HB:=Hd (belowOnl HB.o hon (by simp only[List.mem_singleton,forall_eq];(have o0:=HC1.o;have o1:=HC2.o;have o2:=HC3.o;have o3:=HC4.o;have o4:=HC5.o;have o5:=HC6.o;have x0:=HXb.o.lt;have x1:=HXz.o.lt;omega)) HB.o.size);replace HXb:=Hd (HXb.o.onl hon (by simp only[List.mem_singleton];(have o0:=HC1.o;have o1:=HC2.o;have o2:=HC3.o;have o3:=HC4.o;have o4:=HC5.o;have o5:=HC6.o;have x0:=HXb.o.lt;have x1:=HXz.o.lt;omega)));replace HXz:=Hd (HXz.o.onl hon (by simp only[List.mem_singleton];(have o0:=HC1.o;have o1:=HC2.o;have o2:=HC3.o;have o3:=HC4.o;have o4:=HC5.o;have o5:=HC6.o;have x0:=HXb.o.lt;have x1:=HXz.o.lt;omega)));replace HT:=Hd (Ro.onl HT.o hon (by simp only[List.mem_singleton];(have o0:=HC1.o;have o1:=HC2.o;have o2:=HC3.o;have o3:=HC4.o;have o4:=HC5.o;have o5:=HC6.o;have x0:=HXb.o.lt;have x1:=HXz.o.lt;omega)));have HC9:Hid (w5.heap.size<=w9.heap.size):=Hd hon.size;clear hw9 hon hbo hgb c0 i1 i2 HTH;replace HXb:Hid (Bx w9 w.heap.size sc (moB B k x 3)):=HXb;have HTT:Hid (Bo w9 nT (oc (rsO x 3)).toArray):=Hd HT.o;clear HT
 have d2:w9.cell? ⟨nT,2,none⟩=some (.int .i64 (p:Nat)):=by
  have h1:=Ro.cell HTT.o 2;rw[h1,<-HOWN.o]
  rfl
 have hpp:p<2:=HPP.o;have i1:(0:Int)<=(p:Int):=by omega
 have i2:(p:Int)<2:=by omega
 go_wp2_with fail
 with_reducible refine(lists w.heap.size (1+p*14) _).mono ?_
 rintro e w6 ⟨rfl,hb⟩;have HC7:Hid (w9.heap.size<=w6.heap.size):=Hd (hb.size);replace HB:=Hd (below_via HB.o hb);replace HXb:=Hd (HXb.o.below hb);replace HXz:=Hd (HXz.o.below hb);replace HOc:=Hd (HOc.o.below hb);replace HTT:=Hd (HTT.o.below hb);clear hb d2
 obtain⟨ga,gc9,e0⟩:=(HOc.o.il (4*p+3) (by omega)).1.form
 have hox:=HOc.o.il (4*p+3) (by omega);rw[e0] at hox
 have hil:(moB B k x 3).il (4*p+3)=((moB B k x 3).seat p).zs 3:=by
  have:p=0\/p=1:=by omega
  rcases this with rfl|rfl<;>rfl
 rw[hil] at hox e0
 have hzl:(((moB B k x 3).seat p).zs 3).length<=1000:=by
  show(((outB B x.id).seat p).zs 3).length<=1000
  rw[out_zs];exact Nat.le_trans (wo_len _ _) (HV.o.sm.zs p 3)
 have e8:(sc.isl (4*p+3)).v=(sc.zl p 3).v:=by unfold Bs.isl;rw[if_pos (by omega),show(4*p+3) / 4=p by omega,show(4*p+3)%4=3 by omega]
 obtain⟨L,hL⟩:∃L,L=((moB B k x 3).seat p).zs 3:=⟨_,rfl⟩
 rw[<-hL] at hox e0 hzl
 have c8:w6.cell? ⟨w.heap.size,1+p*14+8,none⟩=some (.slice ga L.length gc9):=by
  rw[show 1+p*14+8=1+p*14+5+3 by omega,HXb.o.zone (p:=p) (z:=3) hpp (by omega)];exact congrArg some (e8.symm.trans e0)
 have f8:=HXb.o.free (1+p*14+8);have hix:=idx43 w.heap.size (1+p*14);have HOX:=Hd hox;have HE0:=Hd e0;have HLL:=Hd hL;have HZL:=Hd hzl;clear hox e0 hil hzl e8 hL;go_wp2_with (at_builtin;refine wpList_append_ow (f:=ic) (sz:=1) rfl _ _ 26 rfl (w1.heap.size) 3 _ 8 Tryz.underlying26 infoI rfl (by decide) _ L rfl (HOX.o.1.below ((Below.refl _ _).alloc (Nat.le_refl _) _)) ic_ok _ [x.id] rfl (Rw.one2 (f:=ic) (sz:=1) _ 3 x.id #[.int .i64 x.id] rfl 1 _ rfl) ?c2 ?c3 ?c4 ?_)
 case c2=>have h1:=HZL.o;simp[maxLen];omega
 case c3=>have h1:=HZL.o;simp;omega
 case c4=>simp;(have o0:=HC1.o;have o1:=HC2.o;have o2:=HC3.o;have o3:=HC4.o;have o4:=HC5.o;have o5:=HC6.o;have o6:=HC9.o;have o7:=HC7.o;have x0:=HXb.o.lt;have x1:=HXz.o.lt;omega)
 intro v8 w8 ho8 hg8 hv8
 obtain⟨va,vc,rfl⟩:=ho8.form
 obtain⟨n1,hn1⟩:∃n1,n1=(L++[x.id]).length:=⟨_,rfl⟩
 rw[<-hn1] at ho8 hv8 ⊢
 have hgz:w6.grownBy w8 (Value.slice ga L.length gc9).ownBlock:=grown_trans (grown_below ((Below.refl _ _).alloc (Nat.le_refl _) _)) hg8;have hrow:∀q,(Value.slice ga L.length gc9).ownBlock=some q->w1.heap.size<=q/\q<w2.heap.size:=fun q hq=>⟨(HOX.o.blk hq).1,(HOX.o.blk hq).2.1⟩
 have hxb:Bx w8 w.heap.size sc (moB B k x 3):=HXb.o.grown hgz (fun e=>by have h1:=hrow _ e;(have o0:=HC1.o;have o1:=HC2.o;have o2:=HC3.o;have o3:=HC4.o;have o4:=HC5.o;have o5:=HC6.o;have o6:=HC9.o;have o7:=HC7.o;have x0:=HXb.o.lt;have x1:=HXz.o.lt;omega));have hxz:Bx w8 (w.heap.size+1) nilS zeroB:=HXz.o.grown hgz (fun e=>by have h1:=hrow _ e;(have o0:=HC1.o;have o1:=HC2.o;have o2:=HC3.o;have o3:=HC4.o;have o4:=HC5.o;have o5:=HC6.o;have o6:=HC9.o;have o7:=HC7.o;have x0:=HXb.o.lt;have x1:=HXz.o.lt;omega));have hb8:Below w.heap.size w w8:=HB.o.grown hgz HB.o.size (fun q hq=>by have h1:=hrow _ hq;(have o0:=HC1.o;have o1:=HC2.o;have o2:=HC3.o;have o3:=HC4.o;have o4:=HC5.o;have o5:=HC6.o;have o6:=HC9.o;have o7:=HC7.o;have x0:=HXb.o.lt;have x1:=HXz.o.lt;omega))
 have ho2:BdO (w1.heap.size) w8.heap.size w8 (sc.setZ p 3 ⟨va,n1,vc⟩) (mvB B k x p 3):=by
  have h1:=HOc.o.appZ (by(have o0:=HC1.o;have o1:=HC2.o;have o2:=HC3.o;have o3:=HC4.o;have o4:=HC5.o;have o5:=HC6.o;have o6:=HC9.o;have o7:=HC7.o;have x0:=HXb.o.lt;have x1:=HXz.o.lt;omega)) (p:=p) (z:=3) hpp (by omega) ⟨va,n1,vc⟩ (L++[x.id]) (by rw[HE0.o];exact hgz) (Ox.of ho8) (by
   rw[HE0.o];rcases hv8 with h1|h1
   ·exact .inl h1
   exact .inr ⟨_,h1,by simp⟩)
  rw[HLL.o] at h1
  exact h1
 replace HOc:=Hd ho2;replace HB:=Hd hb8;replace HXb:=Hd hxb;replace HXz:=Hd hxz;have HCz:Hid (w6.heap.size<=w8.heap.size):=Hd hgz.size
 have c9:w8.cell? ⟨w.heap.size,1+p*14+8,none⟩=some ((sc.zl p 3).v):=by
  rw[show 1+p*14+8=1+p*14+5+3 by omega,hxb.zone (p:=p) (z:=3) hpp (by omega)]
  rfl
 have f9:=hxb.free (1+p*14+8);clear ho8 hg8 hv8 hgz hrow hxb hxz hb8 ho2 hn1 c8 f8 hix i1 i2 HTT
 go_upto_region 11 with fail
 obtain⟨w10,hw⟩:∃X,X=w8.setCell ⟨w.heap.size,1+p*14+8,none⟩ (.slice va n1 vc):=⟨_,rfl⟩
 rw[<-hw];have hon:Onl [w.heap.size] w8 w10:=by rw[hw];exact Onl.setCell (Onl.refl _ _) (.inl (by simp)) _
 have hx:Bx w10 w.heap.size (sc.setZ p 3 ⟨va,n1,vc⟩) (mvB B k x p 3):=by
  rw[hw,show 1+p*14+8=1+p*14+5+3 by omega];exact HXb.o.putL (p:=p) (z:=3) hpp (by omega) ⟨va,n1,vc⟩ _
 clear hw c9 f9;have hlo:w.heap.size<=w.heap.size:=by(have o0:=HC1.o;have o1:=HC2.o;have o2:=HC3.o;have o3:=HC4.o;have o4:=HC5.o;have o5:=HC6.o;have o6:=HC9.o;have o7:=HC7.o;have o8:=HCz.o;have x0:=HXb.o.lt;have x1:=HXz.o.lt;omega)
 have hls:w.heap.size<=w8.heap.size:=HB.o.size;replace HB:=Hd (belowOnl HB.o hon (by simp only[List.mem_singleton,forall_eq];exact hlo) hls);replace HXz:=Hd (HXz.o.onl hon (by simp only[List.mem_singleton];(have o0:=HC1.o;have o1:=HC2.o;have o2:=HC3.o;have o3:=HC4.o;have o4:=HC5.o;have o5:=HC6.o;have o6:=HC9.o;have o7:=HC7.o;have o8:=HCz.o;have x0:=HXb.o.lt;have x1:=HXz.o.lt;omega)));replace HOc:=Hd (HOc.o.onlB hon HXb.o);have HC8:Hid (w8.heap.size<=w10.heap.size):=Hd (hon.size);clear hlo hls;replace HXb:=Hd hx;clear hx hon;go_wp2_with (first|(refine wpList_load_bx _ rfl rfl HXb.o (by kernel_rfl) ?_)|(refine wpList_store_bh (s:=(sc.setZ p 3 ⟨va,n1,vc⟩)) (B:=(mvB B k x p 3)) rfl _ _ rfl rfl rfl HXz.o rfl ?_;intro w7 hw9))
 have hg9:Bx w7 (w.heap.size+1) (sc.setZ p 3 ⟨va,n1,vc⟩) ((mvB B k x p 3)):=by rw[hw9.out];exact Bx.row HXz.o _ _
 have ho9:Onl [w.heap.size+1] w10 w7:=by rw[hw9.out];exact Onl.setRow (Onl.refl _ _) (.inl (by simp)) _
 have hlo:w.heap.size<=w.heap.size+1:=by(have o0:=HC1.o;have o1:=HC2.o;have o2:=HC3.o;have o3:=HC4.o;have o4:=HC5.o;have o5:=HC6.o;have o6:=HC9.o;have o7:=HC7.o;have o8:=HCz.o;have o9:=HC8.o;have x0:=HXb.o.lt;have x1:=HXz.o.lt;omega)
 have hb9:Below w.heap.size w w7:=belowOnl HB.o ho9 (by simp only[List.mem_singleton,forall_eq];exact hlo) HB.o.size;have HG9:=Hd hg9;have HPOST:Hid (BrA w ((mvB B k x p 3)) (.int .i64 0) (.returned (.tuple #[bv (sc.setZ p 3 ⟨va,n1,vc⟩) ((mvB B k x p 3)),.int .i64 0])) w7):=Hd ⟨_,rfl,(HOc.o.onlB ho9 HXz.o).mono (by(have o0:=HC1.o;have o1:=HC2.o;have o2:=HC3.o;have o3:=HC4.o;have o4:=HC5.o;have o5:=HC6.o;have o6:=HC9.o;have o7:=HC7.o;have o8:=HCz.o;have o9:=HC8.o;have x0:=HXb.o.lt;have x1:=HXz.o.lt;omega)) (by have h9:=ho9.size;(have o0:=HC1.o;have o1:=HC2.o;have o2:=HC3.o;have o3:=HC4.o;have o4:=HC5.o;have o5:=HC6.o;have o6:=HC9.o;have o7:=HC7.o;have o8:=HCz.o;have o9:=HC8.o;have x0:=HXb.o.lt;have x1:=HXz.o.lt;omega)),hb9⟩;clear hw9 hg9 ho9 hb9 hlo;go_wp2_with fail
 exact bodyPost_ret (v:= .tuple #[bv (sc.setZ p 3 ⟨va,n1,vc⟩) ((mvB B k x p 3)),.int .i64 0]) (results_b1 Tryz.results66 _ _ HG9.o rfl rfl) rfl HPOST.o
end Go.Proofs.YtpbepnpnpopmfaaGreat
