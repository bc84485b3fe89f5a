/- The triggers of a happening, by the code and by the reference. -/
import Derived.Test.YtpbepnpnpopmfaaGreatTOf
import Derived.Test.YtpbepnpnpopmfaaGreatTFi
import Derived.Test.YtpbepnpnpopmfaaGreatBRv
import Derived.Test.YtpbepnpnpopmfaaGreatTDx
import Derived.Deep.DeepCutAuto
import Derived.LoopTactic
import Derived.Deep.MidRow
open Go.RowKit Go.Proofs.YtpbepnpnpopmfaaGreat
set_option maxRecDepth 100000
set_option maxHeartbeats 4000000
namespace Go.Proofs.YtpbepnpnpopmfaaGreat
open Plain
set_option linter.unusedVariables false
set_option linter.unusedSimpArgs false

def Plain.trO(cs:List (Cd×List (Int×Nat)))(wh:Int)(o:Ob):List It:=ofI (whens (cardX cs o.cd)) o wh
theorem trO_len(cs:List (Cd×List (Int×Nat)))(wh:Int)(o:Ob):(trO cs wh o).length<=2:=by
 unfold trO ofI;rw[ofK_two];exact Nat.le_trans (ofK_len _ _ _ _) (Nat.min_le_right _ _)
def Plain.abt(B:Bd)(wh id pl:Int)(o:Ob):Bool:=if wh=3 then (decide (pl=0\/pl=1)&&decide (o.id∈(B.seat pl.toNat).fld)) else (decide (wh=1\/wh=2)&&decide (o.id=id))
def Plain.hapK(cs:List (Cd×List (Int×Nat)))(B:Bd)(wh id pl:Int)(l:List Ob):List It:=l.flatMap (fun o=>if abt B wh id pl o then trO cs wh o else [])
theorem hapK_len(cs:List (Cd×List (Int×Nat)))(B:Bd)(wh id pl:Int)(l:List Ob):(hapK cs B wh id pl l).length<=2*l.length:=by
 induction l with
 |nil=>simp[hapK]
 |cons a l ih=>
  have h:=trO_len cs wh a
  have h2:(if abt B wh id pl a then trO cs wh a else []).length<=2:=by
   split
   ·exact h
   simp
  unfold hapK at*
  rw[List.flatMap_cons,List.length_append,List.length_cons];omega
theorem hapK_take{cs:List (Cd×List (Int×Nat))}{B:Bd}{wh id pl:Int}{l:List Ob}{k:Nat}{x:Ob}(hx:l[k]? =some x):hapK cs B wh id pl (l.take (k+1))=hapK cs B wh id pl (l.take k)++if abt B wh id pl x then trO cs wh x else []:=by
 unfold hapK;rw[List.take_add_one,hx,List.flatMap_append]
 simp
theorem hapK_yes{cs:List (Cd×List (Int×Nat))}{B:Bd}{wh id pl:Int}{l:List Ob}{k:Nat}{x:Ob}(hx:l[k]? =some x)(h:abt B wh id pl x=true):hapK cs B wh id pl (l.take (k+1))=hapK cs B wh id pl (l.take k)++trO cs wh x:=by
 rw[hapK_take hx,h]
 rfl
theorem hapK_no{cs:List (Cd×List (Int×Nat))}{B:Bd}{wh id pl:Int}{l:List Ob}{k:Nat}{x:Ob}(hx:l[k]? =some x)(h:abt B wh id pl x=false):hapK cs B wh id pl (l.take (k+1))=hapK cs B wh id pl (l.take k):=by
 rw[hapK_take hx,h]
 simp
theorem hapK_none{cs:List (Cd×List (Int×Nat))}{B:Bd}{wh id pl:Int}{l:List Ob}(h:∀x∈l,abt B wh id pl x=false):hapK cs B wh id pl l=[]:=by
 unfold hapK;rw[List.flatMap_eq_nil_iff];intro x hx;simp[h x hx]
theorem hapK_one{cs:List (Cd×List (Int×Nat))}{B:Bd}{wh id pl:Int}(hwh:wh=1\/wh=2):∀(l:List Ob) (k:Nat) (x:Ob),(l.map Ob.id).Nodup->l[k]? =some x->x.id=id->hapK cs B wh id pl l=trO cs wh x
 |[],_,_,_,h,_=>by simp at h
 |a::l,0,x,hn,h,he=>by
  simp at h
  subst h;have hn2:=List.nodup_cons.1 (by simpa using hn:(a.id::l.map Ob.id).Nodup);have h1:abt B wh id pl a=true:=by unfold abt;rw[if_neg (by omega)];simp[hwh,he]
  have h2:hapK cs B wh id pl l=[]:=hapK_none (fun y hy=>by
   unfold abt;rw[if_neg (by omega)]
   have:y.id≠id:=fun e=>hn2.1 (List.mem_map.2 ⟨y,hy,e.trans he.symm⟩)
   simp[this])
  unfold hapK at*
  rw[List.flatMap_cons,h2,h1]
  simp
 |a::l,k+1,x,hn,h,he=>by
  simp at h
  have hn2:=List.nodup_cons.1 (by simpa using hn:(a.id::l.map Ob.id).Nodup)
  have h1:abt B wh id pl a=false:=by
   unfold abt;rw[if_neg (by omega)]
   have:a.id≠id:=fun e=>hn2.1 (List.mem_map.2 ⟨x,List.mem_of_getElem? h,he.trans e.symm⟩)
   simp[this]
  have h2:=hapK_one (cs:=cs) (B:=B) (pl:=pl) hwh l k x hn2.2 h he;unfold hapK at*
  rw[List.flatMap_cons,h2,h1]
  simp
theorem VB.ids{B:Bd}(h:VB B):(B.ob.map Ob.id).Nodup:=ids_nodup (fun i o hi=>(h.plc.ob i o hi).2.1)
def OfA(w:World)(l:List It)(e:Ending)(w':World):Prop:=∃a c,e= .returned (.slice a l.length c)/\Ow itc 5 73 w' w.heap.size (.slice a l.length c) (l.map nilI)/\Below w.heap.size w w'
theorem OfA.none{w w':World}(hb:Below w.heap.size w w'):OfA w [] (.returned (.slice Option.none 0 0)) w':=⟨Option.none,0,rfl,Ow.nil _ _ _,hb⟩
theorem wpList_load_o{ops:Array Oper}{rest:List Oper}{op:Oper}{a:Act}{w:World}{Q:Exit->Act->World->Prop}{P:Nat}(x:Ob)(p:Operand)(ho:op.op= .load 47 p)(hx:a.eval p= .pointer (some ⟨P,0,none⟩))(h:w.heap[P]? =some (.cells (oc x).toArray 47 (0,0)))(hw:Region.wanted op (yielded ops a.tmps)=true)
  (hK:wpList Tryz.prog ops Q rest (a.put op.dst (.agg (oc x).toArray)) w):wpList Tryz.prog ops Q (op::rest) a w:=by
 unfold wpList;rw[if_pos hw];refine .inl (wp_load_mid 47 p ho P 0 hx (oc x) _ (fun j u hu=> ?_) Tryz.underlying47 rfl (by kernel_rfl) hK);rw[Nat.zero_add,cell_of_row w P j _ 47 (0,0) h]
 simpa using hu
theorem boxed_o{W W':World}{old:Array Value}{x:Ob}(h:W' =(W.alloc (.cells old 47)).setRow W.heap.size (oc x).toArray):Below W.heap.size W W'/\W'.heap[W.heap.size]? =some (.cells (oc x).toArray 47 (0,0)):=by
 have b1:Below W.heap.size W (W.alloc (.cells old 47)):=(Below.refl _ _).alloc (Nat.le_refl _) _
 exact⟨belowOnl b1 (by rw[h];exact Onl.setRow (Onl.refl _ _) (.inl (by simp)) _:Onl [W.heap.size] _ W') (by simp) b1.size,by rw[h];exact setRow_heap _ _ _ _ 47 _ (heap_alloc_new _ _)⟩
theorem tofv(v:Value)(cs:List (Cd×List (Int×Nat)))(o:Ob)(wh:Int)(w:World)(h:CsR w v cs)(hl:Lt cs):Calls Tryz.prog 102 #[v,.agg (oc o).toArray,.int .i64 wh] w (OfA w (trO cs wh o)):=tof v cs o wh w h hl
theorem Rw.of_ow{w:World}{base:Nat}{v:Value}{l:List It}(h:Ow itc 5 73 w base v (l.map nilI)):Rw itc 5 w v (l.map nilI):=h.rw itc_len
theorem hof_bad(v:Value)(cs:List (Cd×List (Int×Nat)))(s:Bs)(B:Bd)(wh id pl:Int)(w:World)(hc:CsR w v cs)(hl:Lt cs)(h:BdR w s B)(hi:B.I)(hsm:B.Sm)(hv:¬VB B):Calls Tryz.prog 89 #[v,bv s B,.agg #[.int .i64 wh,.int .i64 id,.int .i64 pl]] w (OfA w []):=by
 have HCS:=Hd hc;have HL:=Hd hl;have HR:=Hd h;have HI:=Hd hi;have HSM:=Hd hsm;have HV:=Hd hv;clear hc hl h hi hsm hv;go_enter Tryz.func89,Tryz.ntmps89
 go_upto_region 1 with fail
 obtain⟨wz,hwz⟩:∃W,W=((w.alloc (.cells (bcells s B) 34)).alloc (.cells #[.int .i64 wh,.int .i64 id,.int .i64 pl] 95)):=⟨_,rfl⟩
 change Code.wp Tryz.prog _ _ _ ((w.alloc (.cells (bcells s B) 34)).alloc (.cells #[.int .i64 wh,.int .i64 id,.int .i64 pl] 95));rw[<-hwz];have b1:Below w.heap.size w (w.alloc (.cells (bcells s B) 34)):=(Below.refl _ _).alloc (Nat.le_refl _) _;have b2:Below (w.alloc (.cells (bcells s B) 34)).heap.size (w.alloc (.cells (bcells s B) 34)) wz:=by rw[hwz];exact(Below.refl _ _).alloc (Nat.le_refl _) _
 have HB:Hid (Below w.heap.size w wz):=Hd (below_via b1 b2);have HX:Hid (Bx wz w.heap.size s B):=Hd (Bx.below (w:=(w.alloc (.cells (bcells s B) 34))) (heap_alloc_new _ _) b2);have HH:Hid (Ro wz (w.heap.size+1) #[.int .i64 wh,.int .i64 id,.int .i64 pl] 95):=Hd (by rw[hwz,show w.heap.size+1=(w.alloc (.cells (bcells s B) 34)).heap.size by simp];exact Ro.new _ _ _);clear hwz b1 b2;go_wp2_with (refine wpList_load_bx _ rfl rfl HX.o (by kernel_rfl) ?_)
 with_reducible refine(bvalid s B _ (HR.o.below HB.o) HI.o HSM.o).mono ?_
 rintro e w1 ⟨⟨r,rfl,hr⟩,hb⟩;replace HB:=Hd (below_via HB.o hb);replace HX:=Hd (HX.o.below hb);replace HH:=Hd (HH.o.below hb);obtain rfl:r=false:=by cases r with|false=>rfl|true=>exact absurd (hr.1 rfl) HV.o
 clear hb hr;go_wp2_with fail
 go_returns;exact OfA.none HB.o
theorem rhof_bad(v:Value)(cs:List (Cd×List (Int×Nat)))(s:Bs)(B:Bd)(wh id pl:Int)(w:World)(hc:CsR w v cs)(hl:Lt cs)(h:BdR w s B)(hi:B.I)(hsm:B.Sm)(hv:¬VB B):Calls Tryz.prog 75 #[v,bv s B,.agg #[.int .i64 wh,.int .i64 id,.int .i64 pl]] w (OfA w []):=by
 have HCS:=Hd hc;have HL:=Hd hl;have HR:=Hd h;have HI:=Hd hi;have HSM:=Hd hsm;have HV:=Hd hv;clear hc hl h hi hsm hv;go_enter Tryz.func75,Tryz.ntmps75
 go_upto_region 1 with fail
 obtain⟨wz,hwz⟩:∃W,W=((w.alloc (.cells (bcells s B) 34)).alloc (.cells #[.int .i64 wh,.int .i64 id,.int .i64 pl] 95)):=⟨_,rfl⟩
 change Code.wp Tryz.prog _ _ _ ((w.alloc (.cells (bcells s B) 34)).alloc (.cells #[.int .i64 wh,.int .i64 id,.int .i64 pl] 95));rw[<-hwz];have b1:Below w.heap.size w (w.alloc (.cells (bcells s B) 34)):=(Below.refl _ _).alloc (Nat.le_refl _) _;have b2:Below (w.alloc (.cells (bcells s B) 34)).heap.size (w.alloc (.cells (bcells s B) 34)) wz:=by rw[hwz];exact(Below.refl _ _).alloc (Nat.le_refl _) _
 have HB:Hid (Below w.heap.size w wz):=Hd (below_via b1 b2);have HX:Hid (Bx wz w.heap.size s B):=Hd (Bx.below (w:=(w.alloc (.cells (bcells s B) 34))) (heap_alloc_new _ _) b2);have HH:Hid (Ro wz (w.heap.size+1) #[.int .i64 wh,.int .i64 id,.int .i64 pl] 95):=Hd (by rw[hwz,show w.heap.size+1=(w.alloc (.cells (bcells s B) 34)).heap.size by simp];exact Ro.new _ _ _);clear hwz b1 b2;go_wp2_with (refine wpList_load_bx _ rfl rfl HX.o (by kernel_rfl) ?_)
 with_reducible refine(brvalid s B _ (HR.o.below HB.o) HI.o HSM.o).mono ?_
 rintro e w1 ⟨⟨r,rfl,hr⟩,hb⟩;replace HB:=Hd (below_via HB.o hb);replace HX:=Hd (HX.o.below hb);replace HH:=Hd (HH.o.below hb);obtain rfl:r=false:=by cases r with|false=>rfl|true=>exact absurd (hr.1 rfl) HV.o
 clear hb hr;go_wp2_with fail
 go_returns;exact OfA.none HB.o
theorem hof_one(v:Value)(cs:List (Cd×List (Int×Nat)))(s:Bs)(B:Bd)(wh id pl:Int)(w:World)(hc:CsR w v cs)(hl:Lt cs)(h:BdR w s B)(hi:B.I)(hsm:B.Sm)(hid:Plain.I id)(hv:VB B)(hwh:wh=1\/wh=2):Calls Tryz.prog 89 #[v,bv s B,.agg #[.int .i64 wh,.int .i64 id,.int .i64 pl]] w (OfA w (hapK cs B wh id pl B.ob)):=by
 have HID:=Hd hid;clear hid;rcases hwh with rfl|rfl
 ·have HCS:=Hd hc
  have HL:=Hd hl;have HR:=Hd h;have HI:=Hd hi;have HSM:=Hd hsm;have HV:=Hd hv;clear hc hl h hi hsm hv;go_enter Tryz.func89,Tryz.ntmps89
  go_upto_region 1 with fail
  obtain⟨wz,hwz⟩:∃W,W=((w.alloc (.cells (bcells s B) 34)).alloc (.cells #[.int .i64 1,.int .i64 id,.int .i64 pl] 95)):=⟨_,rfl⟩
  change Code.wp Tryz.prog _ _ _ ((w.alloc (.cells (bcells s B) 34)).alloc (.cells #[.int .i64 1,.int .i64 id,.int .i64 pl] 95));rw[<-hwz];have b1:Below w.heap.size w (w.alloc (.cells (bcells s B) 34)):=(Below.refl _ _).alloc (Nat.le_refl _) _;have b2:Below (w.alloc (.cells (bcells s B) 34)).heap.size (w.alloc (.cells (bcells s B) 34)) wz:=by rw[hwz];exact(Below.refl _ _).alloc (Nat.le_refl _) _
  have HB:Hid (Below w.heap.size w wz):=Hd (below_via b1 b2);have HX:Hid (Bx wz w.heap.size s B):=Hd (Bx.below (w:=(w.alloc (.cells (bcells s B) 34))) (heap_alloc_new _ _) b2);have HH:Hid (Ro wz (w.heap.size+1) #[.int .i64 1,.int .i64 id,.int .i64 pl] 95):=Hd (by rw[hwz,show w.heap.size+1=(w.alloc (.cells (bcells s B) 34)).heap.size by simp];exact Ro.new _ _ _);clear hwz b1 b2;go_wp2_with (refine wpList_load_bx _ rfl rfl HX.o (by kernel_rfl) ?_)
  with_reducible refine(bvalid s B _ (HR.o.below HB.o) HI.o HSM.o).mono ?_
  rintro e w1 ⟨⟨r,rfl,hr⟩,hb⟩;replace HB:=Hd (below_via HB.o hb);replace HX:=Hd (HX.o.below hb);replace HH:=Hd (HH.o.below hb);obtain rfl:r=true:=hr.2 HV.o;clear hb hr;have d0:w1.cell? ⟨w.heap.size+1,0,none⟩=some (.int .i64 1):=HH.o.cell 0;have d1:w1.cell? ⟨w.heap.size+1,1,none⟩=some (.int .i64 id):=HH.o.cell 1;have d2:w1.cell? ⟨w.heap.size+1,2,none⟩=some (.int .i64 pl):=HH.o.cell 2;go_wp2_with (refine wpList_load_bx _ rfl rfl HX.o (by kernel_rfl) ?_)
  with_reducible refine(bfind s B id _ (HR.o.below HB.o) HI.o HSM.o HID.o).mono ?_
  rintro e w2 ⟨hA,hb⟩;replace HB:=Hd (below_via HB.o hb);replace HH:=Hd (HH.o.below hb);clear hb d0 d1 d2;rcases hA with⟨_,k,x,hx,he,rfl⟩|⟨hno,c,hc,rfl⟩
  ·go_wp2_with (refine wpList_store_o rfl x _ _ rfl rfl rfl (heap_alloc_new _ _) rfl ?_)
   intro w3 hw3;have hbx:=boxed_o hw3.out;have HZ:=Hd hbx.2;replace HB:=Hd (below_via HB.o hbx.1);replace HH:=Hd (HH.o.below hbx.1);have HW:Hid (hapK cs B 1 id pl B.ob=trO cs 1 x):=Hd (hapK_one (Or.inl rfl) B.ob k x (VB.ids HV.o) hx he);have d0:w3.cell? ⟨w.heap.size+1,0,none⟩=some (.int .i64 1):=HH.o.cell 0;have HSZ3:Hid (w.heap.size<=w3.heap.size):=Hd HB.o.size;clear hw3 hbx hx he;go_wp2_with (refine wpList_load_o x _ rfl rfl HZ.o (by kernel_rfl) ?_)
   with_reducible refine(tofv v cs x 1 _ (HCS.o.below HB.o) HL.o).mono ?_
   rintro e w4 ⟨la,lc,rfl,ho,hb⟩;replace HB:=Hd (below_via HB.o hb);have HO:=Hd ho;have HSZ:Hid (w.heap.size<=w3.heap.size):=Hd (by have:=HSZ3.o;omega);clear hb ho d0;go_wp2_with fail
   go_returns
   exact⟨la,lc,by rw[HW.o];rfl,by rw[HW.o];exact HO.o.base (fun b hb=>Nat.le_trans HSZ.o (HO.o.typ b hb).1),HB.o⟩
  have tc:(c !=0)=true:=by simpa using hc
  have HW:Hid (hapK cs B 1 id pl B.ob=[]):=Hd (hapK_none (fun x hx=>by
   have h1:=hno HV.o x hx;unfold abt;rw[if_neg (by omega)];simp[h1]))
  clear hno hc;go_wp2_with (refine wpList_store_o rfl zob _ _ rfl rfl rfl (heap_alloc_new _ _) rfl ?_)
  intro w3 hw3;have hbx:=boxed_o hw3.out;replace HB:=Hd (below_via HB.o hbx.1);clear hw3 hbx;go_wp2_with fail
  go_returns;rw[HW.o];exact OfA.none HB.o
 have HCS:=Hd hc;have HL:=Hd hl;have HR:=Hd h;have HI:=Hd hi;have HSM:=Hd hsm;have HV:=Hd hv;clear hc hl h hi hsm hv;go_enter Tryz.func89,Tryz.ntmps89
 go_upto_region 1 with fail
 obtain⟨wz,hwz⟩:∃W,W=((w.alloc (.cells (bcells s B) 34)).alloc (.cells #[.int .i64 2,.int .i64 id,.int .i64 pl] 95)):=⟨_,rfl⟩
 change Code.wp Tryz.prog _ _ _ ((w.alloc (.cells (bcells s B) 34)).alloc (.cells #[.int .i64 2,.int .i64 id,.int .i64 pl] 95));rw[<-hwz];have b1:Below w.heap.size w (w.alloc (.cells (bcells s B) 34)):=(Below.refl _ _).alloc (Nat.le_refl _) _;have b2:Below (w.alloc (.cells (bcells s B) 34)).heap.size (w.alloc (.cells (bcells s B) 34)) wz:=by rw[hwz];exact(Below.refl _ _).alloc (Nat.le_refl _) _
 have HB:Hid (Below w.heap.size w wz):=Hd (below_via b1 b2);have HX:Hid (Bx wz w.heap.size s B):=Hd (Bx.below (w:=(w.alloc (.cells (bcells s B) 34))) (heap_alloc_new _ _) b2);have HH:Hid (Ro wz (w.heap.size+1) #[.int .i64 2,.int .i64 id,.int .i64 pl] 95):=Hd (by rw[hwz,show w.heap.size+1=(w.alloc (.cells (bcells s B) 34)).heap.size by simp];exact Ro.new _ _ _);clear hwz b1 b2;go_wp2_with (refine wpList_load_bx _ rfl rfl HX.o (by kernel_rfl) ?_)
 with_reducible refine(bvalid s B _ (HR.o.below HB.o) HI.o HSM.o).mono ?_
 rintro e w1 ⟨⟨r,rfl,hr⟩,hb⟩;replace HB:=Hd (below_via HB.o hb);replace HX:=Hd (HX.o.below hb);replace HH:=Hd (HH.o.below hb);obtain rfl:r=true:=hr.2 HV.o;clear hb hr;have d0:w1.cell? ⟨w.heap.size+1,0,none⟩=some (.int .i64 2):=HH.o.cell 0;have d1:w1.cell? ⟨w.heap.size+1,1,none⟩=some (.int .i64 id):=HH.o.cell 1;have d2:w1.cell? ⟨w.heap.size+1,2,none⟩=some (.int .i64 pl):=HH.o.cell 2;go_wp2_with (refine wpList_load_bx _ rfl rfl HX.o (by kernel_rfl) ?_)
 with_reducible refine(bfind s B id _ (HR.o.below HB.o) HI.o HSM.o HID.o).mono ?_
 rintro e w2 ⟨hA,hb⟩;replace HB:=Hd (below_via HB.o hb);replace HH:=Hd (HH.o.below hb);clear hb d0 d1 d2;rcases hA with⟨_,k,x,hx,he,rfl⟩|⟨hno,c,hc,rfl⟩
 ·go_wp2_with (refine wpList_store_o rfl x _ _ rfl rfl rfl (heap_alloc_new _ _) rfl ?_)
  intro w3 hw3;have hbx:=boxed_o hw3.out;have HZ:=Hd hbx.2;replace HB:=Hd (below_via HB.o hbx.1);replace HH:=Hd (HH.o.below hbx.1);have HW:Hid (hapK cs B 2 id pl B.ob=trO cs 2 x):=Hd (hapK_one (Or.inr rfl) B.ob k x (VB.ids HV.o) hx he);have d0:w3.cell? ⟨w.heap.size+1,0,none⟩=some (.int .i64 2):=HH.o.cell 0;have HSZ3:Hid (w.heap.size<=w3.heap.size):=Hd HB.o.size;clear hw3 hbx hx he;go_wp2_with (refine wpList_load_o x _ rfl rfl HZ.o (by kernel_rfl) ?_)
  with_reducible refine(tofv v cs x 2 _ (HCS.o.below HB.o) HL.o).mono ?_
  rintro e w4 ⟨la,lc,rfl,ho,hb⟩;replace HB:=Hd (below_via HB.o hb);have HO:=Hd ho;have HSZ:Hid (w.heap.size<=w3.heap.size):=Hd (by have:=HSZ3.o;omega);clear hb ho d0;go_wp2_with fail
  go_returns
  exact⟨la,lc,by rw[HW.o];rfl,by rw[HW.o];exact HO.o.base (fun b hb=>Nat.le_trans HSZ.o (HO.o.typ b hb).1),HB.o⟩
 have tc:(c !=0)=true:=by simpa using hc
 have HW:Hid (hapK cs B 2 id pl B.ob=[]):=Hd (hapK_none (fun x hx=>by
  have h1:=hno HV.o x hx;unfold abt;rw[if_neg (by omega)];simp[h1]))
 clear hno hc;go_wp2_with (refine wpList_store_o rfl zob _ _ rfl rfl rfl (heap_alloc_new _ _) rfl ?_)
 intro w3 hw3;have hbx:=boxed_o hw3.out;replace HB:=Hd (below_via HB.o hbx.1);clear hw3 hbx;go_wp2_with fail
 go_returns;rw[HW.o];exact OfA.none HB.o
theorem hof_no(v:Value)(cs:List (Cd×List (Int×Nat)))(s:Bs)(B:Bd)(wh id pl:Int)(w:World)(hc:CsR w v cs)(hl:Lt cs)(h:BdR w s B)(hi:B.I)(hsm:B.Sm)(hv:VB B)(h1:wh≠1)(h2:wh≠2)(h3:wh=3->pl≠0/\pl≠1):Calls Tryz.prog 89 #[v,bv s B,.agg #[.int .i64 wh,.int .i64 id,.int .i64 pl]] w (OfA w (hapK cs B wh id pl B.ob)):=by
 have HW:Hid (hapK cs B wh id pl B.ob=[]):=Hd (hapK_none (fun x hx=>by
  unfold abt
  by_cases e:wh=3
  ·rw[if_pos e];simp;intro h;have:=h3 e;omega
  rw[if_neg e];simp;omega))
 have q1:(wh==1)=false:=by simpa using h1
 have q2:(wh==2)=false:=by simpa using h2
 rw[HW.o]
 by_cases e:wh=3
 ·subst e
  have p1:(pl !=0)=true:=by simpa using (h3 rfl).1
  have p2:(pl !=1)=true:=by simpa using (h3 rfl).2
  clear h1 h2 h3 q1 q2 HW;have HCS:=Hd hc;have HL:=Hd hl;have HR:=Hd h;have HI:=Hd hi;have HSM:=Hd hsm;have HV:=Hd hv;clear hc hl h hi hsm hv;go_enter Tryz.func89,Tryz.ntmps89
  go_upto_region 1 with fail
  obtain⟨wz,hwz⟩:∃W,W=((w.alloc (.cells (bcells s B) 34)).alloc (.cells #[.int .i64 3,.int .i64 id,.int .i64 pl] 95)):=⟨_,rfl⟩
  change Code.wp Tryz.prog _ _ _ ((w.alloc (.cells (bcells s B) 34)).alloc (.cells #[.int .i64 3,.int .i64 id,.int .i64 pl] 95));rw[<-hwz];have b1:Below w.heap.size w (w.alloc (.cells (bcells s B) 34)):=(Below.refl _ _).alloc (Nat.le_refl _) _;have b2:Below (w.alloc (.cells (bcells s B) 34)).heap.size (w.alloc (.cells (bcells s B) 34)) wz:=by rw[hwz];exact(Below.refl _ _).alloc (Nat.le_refl _) _
  have HB:Hid (Below w.heap.size w wz):=Hd (below_via b1 b2);have HX:Hid (Bx wz w.heap.size s B):=Hd (Bx.below (w:=(w.alloc (.cells (bcells s B) 34))) (heap_alloc_new _ _) b2);have HH:Hid (Ro wz (w.heap.size+1) #[.int .i64 3,.int .i64 id,.int .i64 pl] 95):=Hd (by rw[hwz,show w.heap.size+1=(w.alloc (.cells (bcells s B) 34)).heap.size by simp];exact Ro.new _ _ _);clear hwz b1 b2;go_wp2_with (refine wpList_load_bx _ rfl rfl HX.o (by kernel_rfl) ?_)
  with_reducible refine(bvalid s B _ (HR.o.below HB.o) HI.o HSM.o).mono ?_
  rintro e w1 ⟨⟨r,rfl,hr⟩,hb⟩;replace HB:=Hd (below_via HB.o hb);replace HX:=Hd (HX.o.below hb);replace HH:=Hd (HH.o.below hb);obtain rfl:r=true:=hr.2 HV.o;clear hb hr;have d0:w1.cell? ⟨w.heap.size+1,0,none⟩=some (.int .i64 3):=HH.o.cell 0;have d1:w1.cell? ⟨w.heap.size+1,1,none⟩=some (.int .i64 id):=HH.o.cell 1;have d2:w1.cell? ⟨w.heap.size+1,2,none⟩=some (.int .i64 pl):=HH.o.cell 2;go_wp2_with fail
  go_returns;exact OfA.none HB.o
 have q3:(wh==3)=false:=by simpa using e
 clear h1 h2 h3 e HW;have HCS:=Hd hc;have HL:=Hd hl;have HR:=Hd h;have HI:=Hd hi;have HSM:=Hd hsm;have HV:=Hd hv;clear hc hl h hi hsm hv;go_enter Tryz.func89,Tryz.ntmps89
 go_upto_region 1 with fail
 obtain⟨wz,hwz⟩:∃W,W=((w.alloc (.cells (bcells s B) 34)).alloc (.cells #[.int .i64 wh,.int .i64 id,.int .i64 pl] 95)):=⟨_,rfl⟩
 change Code.wp Tryz.prog _ _ _ ((w.alloc (.cells (bcells s B) 34)).alloc (.cells #[.int .i64 wh,.int .i64 id,.int .i64 pl] 95));rw[<-hwz];have b1:Below w.heap.size w (w.alloc (.cells (bcells s B) 34)):=(Below.refl _ _).alloc (Nat.le_refl _) _;have b2:Below (w.alloc (.cells (bcells s B) 34)).heap.size (w.alloc (.cells (bcells s B) 34)) wz:=by rw[hwz];exact(Below.refl _ _).alloc (Nat.le_refl _) _
 have HB:Hid (Below w.heap.size w wz):=Hd (below_via b1 b2);have HX:Hid (Bx wz w.heap.size s B):=Hd (Bx.below (w:=(w.alloc (.cells (bcells s B) 34))) (heap_alloc_new _ _) b2);have HH:Hid (Ro wz (w.heap.size+1) #[.int .i64 wh,.int .i64 id,.int .i64 pl] 95):=Hd (by rw[hwz,show w.heap.size+1=(w.alloc (.cells (bcells s B) 34)).heap.size by simp];exact Ro.new _ _ _);clear hwz b1 b2;go_wp2_with (refine wpList_load_bx _ rfl rfl HX.o (by kernel_rfl) ?_)
 with_reducible refine(bvalid s B _ (HR.o.below HB.o) HI.o HSM.o).mono ?_
 rintro e w1 ⟨⟨r,rfl,hr⟩,hb⟩;replace HB:=Hd (below_via HB.o hb);replace HX:=Hd (HX.o.below hb);replace HH:=Hd (HH.o.below hb);obtain rfl:r=true:=hr.2 HV.o;clear hb hr;have d0:w1.cell? ⟨w.heap.size+1,0,none⟩=some (.int .i64 wh):=HH.o.cell 0;have d1:w1.cell? ⟨w.heap.size+1,1,none⟩=some (.int .i64 id):=HH.o.cell 1;have d2:w1.cell? ⟨w.heap.size+1,2,none⟩=some (.int .i64 pl):=HH.o.cell 2;go_wp2_with fail
 go_returns;exact OfA.none HB.o
def HpL(W:World)(cs:List (Cd×List (Int×Nat)))(B:Bd)(wh id pl:Int)(lv i:Value)(wr:World):Prop:=∃(k:Nat) (a:Option Addr) (c:Nat),k<=B.ob.length/\i= .int .i64 k/\lv= .slice a (hapK cs B wh id pl (B.ob.take k)).length c/\Below W.heap.size W wr/\Ow itc 5 73 wr W.heap.size (.slice a (hapK cs B wh id pl (B.ob.take k)).length c) ((hapK cs B wh id pl (B.ob.take k)).map nilI)
theorem hof_up0(v:Value)(cs:List (Cd×List (Int×Nat)))(s:Bs)(B:Bd)(id:Int)(w:World)(hc:CsR w v cs)(hl:Lt cs)(h:BdR w s B)(hi:B.I)(hsm:B.Sm)(hv:VB B):Calls Tryz.prog 89 #[v,bv s B,.agg #[.int .i64 3,.int .i64 id,.int .i64 0]] w (OfA w (hapK cs B 3 id 0 B.ob)):=by
 have HCS:=Hd hc;have HL:=Hd hl;have HR:=Hd h;have HI:=Hd hi;have HSM:=Hd hsm;have HV:=Hd hv;clear hc hl h hi hsm hv;go_enter Tryz.func89,Tryz.ntmps89
 go_upto_region 1 with fail
 obtain⟨wz,hwz⟩:∃W,W=((w.alloc (.cells (bcells s B) 34)).alloc (.cells #[.int .i64 3,.int .i64 id,.int .i64 0] 95)):=⟨_,rfl⟩
 change Code.wp Tryz.prog _ _ _ ((w.alloc (.cells (bcells s B) 34)).alloc (.cells #[.int .i64 3,.int .i64 id,.int .i64 0] 95));rw[<-hwz];have b1:Below w.heap.size w (w.alloc (.cells (bcells s B) 34)):=(Below.refl _ _).alloc (Nat.le_refl _) _;have b2:Below (w.alloc (.cells (bcells s B) 34)).heap.size (w.alloc (.cells (bcells s B) 34)) wz:=by rw[hwz];exact(Below.refl _ _).alloc (Nat.le_refl _) _
 have HB:Hid (Below w.heap.size w wz):=Hd (below_via b1 b2);have HX:Hid (Bx wz w.heap.size s B):=Hd (Bx.below (w:=(w.alloc (.cells (bcells s B) 34))) (heap_alloc_new _ _) b2);have HH:Hid (Ro wz (w.heap.size+1) #[.int .i64 3,.int .i64 id,.int .i64 0] 95):=Hd (by rw[hwz,show w.heap.size+1=(w.alloc (.cells (bcells s B) 34)).heap.size by simp];exact Ro.new _ _ _);clear hwz b1 b2;go_wp2_with (refine wpList_load_bx _ rfl rfl HX.o (by kernel_rfl) ?_)
 with_reducible refine(bvalid s B _ (HR.o.below HB.o) HI.o HSM.o).mono ?_
 rintro e w1 ⟨⟨r,rfl,hr⟩,hb⟩;replace HB:=Hd (below_via HB.o hb);replace HX:=Hd (HX.o.below hb);replace HH:=Hd (HH.o.below hb);obtain rfl:r=true:=hr.2 HV.o;clear hb hr;have d0:w1.cell? ⟨w.heap.size+1,0,none⟩=some (.int .i64 3):=HH.o.cell 0;have d1:w1.cell? ⟨w.heap.size+1,1,none⟩=some (.int .i64 id):=HH.o.cell 1;have d2:w1.cell? ⟨w.heap.size+1,2,none⟩=some (.int .i64 0):=HH.o.cell 2;have HW1:Hid (Below w.heap.size w w1):=HB
 obtain⟨_,oa,ocp,hov,hof⟩:=(HR.o.ob.below HB.o).form
 obtain⟨_,fa,fcp,hfv,_⟩:=(HR.o.s0.f.below HB.o).form
 have c0:w1.cell? ⟨w.heap.size,0,none⟩=some (.slice oa B.ob.length ocp):=by rw[<-hov];exact HX.o.cell 0
 have c1:w1.cell? ⟨w.heap.size,8,none⟩=some (.slice fa B.s0.fld.length fcp):=by rw[<-hfv];exact HX.o.cell 8
 have HF:Hid (Rw ic 1 w1 (.slice fa B.s0.fld.length fcp) B.s0.fld):=Hd (by rw[<-hfv];exact HR.o.s0.f.below HB.o);have HOF:=Hd hof;have HN:Hid (B.ob.length<=500):=Hd (by have h:=HV.o.num;unfold vNum at h;exact h.2.2.2.2.2.1);have hn5:B.ob.length<=500:=HN.o;clear hov hfv hof;go_wp2_with fail
 clear c0 c1 d0 d1 d2
 go_loopw [10,54] (fun lv i wr=>HpL w1 cs B 3 id 0 lv i wr) (fun _ i _=>B.ob.length-(intOf i).toNat)
 case atStart=>exact⟨0,none,0,by omega,rfl,rfl,Below.refl _ _,Ow.nil _ _ _⟩
 obtain⟨k,la,lc,hk,rfl,rfl,hb,ho⟩:=hrel
 have HBR:=Hd hb;have HOW:=Hd ho;have HLK:Hid ((hapK cs B 3 id 0 (B.ob.take k)).length<=1000):=Hd (by have h:=hapK_len cs B 3 id 0 (B.ob.take k);rw[List.length_take] at h;omega);clear hb ho
 by_cases hkl:k<B.ob.length
 case neg=>
  obtain rfl:k=B.ob.length:=by omega
  rw[List.take_length] at HOW ⊢
  go_wp2_with fail
  go_returns
  exact⟨la,lc,rfl,HOW.o.base (fun b hb=>Nat.le_trans HB.o.size (HOW.o.typ b hb).1),below_via HB.o HBR.o⟩
 case pos=>
 obtain⟨x,hx⟩:∃x,B.ob[k]? =some x:=⟨_,List.getElem?_eq_getElem hkl⟩
 obtain⟨b,off,rfl,hlb,hc⟩:=HOF.o (by omega)
 have hrg:wr.rangeAt b (off+k*12) (oc x):=fun j u hu=>by rw[Nat.add_assoc];exact(HBR.o.cell (p:=⟨b,_,none⟩) hlb).trans (hc k x hx j u hu)
 have HRG:=Hd hrg;have HXX:=Hd hx;have i1:(0:Int)<=(k:Int):=by omega
 have i2:(k:Int)<(B.ob.length:Int):=by omega
 clear hc hrg hx;go_wp2_with (first|(refine wpList_load_mid rfl 47 _ rfl b (off+k*12) rfl (oc x) _ HRG.o Tryz.underlying47 rfl rfl ?_)|(refine wpList_store_o rfl x _ _ rfl rfl rfl (heap_alloc_new _ _) rfl ?_))
 intro w3 hw3;have hbx:=boxed_o hw3.out
 obtain⟨T,hT⟩:∃n,n=wr.heap.size:=⟨_,rfl⟩
 rw[<-hT] at hbx ⊢
 have HZ:=Hd hbx.2;replace HOW:=Hd (HOW.o.below (hT▸hbx.1));replace HBR:=Hd (below_via HBR.o (hT▸hbx.1));have z0:w3.cell? ⟨T,0,none⟩=some (.int .i64 x.id):=by rw[cell_of_row w3 T 0 _ 47 (0,0) HZ.o];rfl
 clear hw3 hbx hT i1 i2 hlb HRG
 obtain⟨r,hr⟩:∃r,decide (x.id∈B.s0.fld)=r:=⟨_,rfl⟩
 have HRR:=Hd hr;clear hr;go_wp2_with fail
 with_reducible refine(containsI _ B.s0.fld x.id r _ (HF.o.below HBR.o) HRR.o).mono ?_
 rintro e w4 ⟨rfl,hb⟩;replace HBR:=Hd (below_via HBR.o hb);replace HOW:=Hd (HOW.o.below hb);replace HZ:Hid (w4.heap[T]? =some (.cells (oc x).toArray 47 (0,0))):=Hd (Ro.below HZ.o hb);clear hb z0
 cases r
 case false=>
  have hno:hapK cs B 3 id 0 (B.ob.take (k+1))=hapK cs B 3 id 0 (B.ob.take k):=hapK_no HXX.o (by have h:=HRR.o;unfold abt Bd.seat;simpa using h);have HNO:=Hd hno;clear hno;go_wp2_with fail
  go_roundw
  case rel=>exact⟨k+1,la,lc,by omega,by go_num,by rw[HNO.o],HBR.o,by rw[HNO.o];exact HOW.o⟩
  case measure=>simp[intOf];omega
 case true=>
  have hyes:hapK cs B 3 id 0 (B.ob.take (k+1))=hapK cs B 3 id 0 (B.ob.take k)++trO cs 3 x:=hapK_yes HXX.o (by have h:=HRR.o;unfold abt Bd.seat;simpa using h);have HYES:=Hd hyes;have HLT:Hid ((trO cs 3 x).length<=2):=Hd (trO_len cs 3 x);have d0:w4.cell? ⟨w.heap.size+1,0,none⟩=some (.int .i64 3):=(HH.o.below HBR.o).cell 0;clear hyes;go_wp2_with (refine wpList_load_o x _ rfl rfl HZ.o (by kernel_rfl) ?_)
  with_reducible refine(tofv v cs x 3 _ ((HCS.o.below HB.o).below HBR.o) HL.o).mono ?_
  rintro e w5 ⟨ma,mc,rfl,hm,hb⟩;replace HBR:=Hd (below_via HBR.o hb);replace HOW:=Hd (HOW.o.below hb);have HM:=Hd (Rw.of_ow hm);clear hb hm d0 HZ;go_wp2_with (at_builtin;refine wpList_append_ow (f:=itc) (sz:=5) rfl _ _ 30 rfl w1.heap.size 73 (.agg #[.int .i64 0,.int .i64 0,.int .i64 0,.int .i64 0,.slice none 0 0]) 56 Tryz.underlying30 infoX rfl (by decide) _ ((hapK cs B 3 id 0 (B.ob.take k)).map nilI) rfl HOW.o itc_ok _ ((trO cs 3 x).map nilI) rfl HM.o ?c2 ?c3 ?c4 ?_)
  case c2=>simp[maxLen];have:=HLK.o;have:=HLT.o;omega
  case c3=>simp;have:=HLK.o;have:=HLT.o;omega
  case c4=>exact HBR.o.size
  intro v8 w8 ho8 hg8 hv8
  obtain⟨va,vc,rfl⟩:=ho8.form
  have hb8:Below w1.heap.size w1 w8:=HBR.o.grown hg8 HBR.o.size (fun q hq=>(HOW.o.typ q hq).1);rw[<-List.map_append,<-HYES.o,List.length_map] at ho8
  rw[show((hapK cs B 3 id 0 (B.ob.take k)).map nilI++(trO cs 3 x).map nilI).length=(hapK cs B 3 id 0 (B.ob.take (k+1))).length by rw[<-List.map_append,<-HYES.o,List.length_map]];have HO8:=Hd ho8;have HB8:=Hd hb8;clear ho8 hg8 hv8 hb8;go_wp2_with fail
  go_roundw
  case rel=>exact⟨k+1,va,vc,by omega,by go_num,rfl,HB8.o,HO8.o⟩
  case measure=>simp[intOf];omega
theorem hof_up1(v:Value)(cs:List (Cd×List (Int×Nat)))(s:Bs)(B:Bd)(id:Int)(w:World)(hc:CsR w v cs)(hl:Lt cs)(h:BdR w s B)(hi:B.I)(hsm:B.Sm)(hv:VB B):Calls Tryz.prog 89 #[v,bv s B,.agg #[.int .i64 3,.int .i64 id,.int .i64 1]] w (OfA w (hapK cs B 3 id 1 B.ob)):=by
 have HCS:=Hd hc;have HL:=Hd hl;have HR:=Hd h;have HI:=Hd hi;have HSM:=Hd hsm;have HV:=Hd hv;clear hc hl h hi hsm hv;go_enter Tryz.func89,Tryz.ntmps89
 go_upto_region 1 with fail
 obtain⟨wz,hwz⟩:∃W,W=((w.alloc (.cells (bcells s B) 34)).alloc (.cells #[.int .i64 3,.int .i64 id,.int .i64 1] 95)):=⟨_,rfl⟩
 change Code.wp Tryz.prog _ _ _ ((w.alloc (.cells (bcells s B) 34)).alloc (.cells #[.int .i64 3,.int .i64 id,.int .i64 1] 95));rw[<-hwz];have b1:Below w.heap.size w (w.alloc (.cells (bcells s B) 34)):=(Below.refl _ _).alloc (Nat.le_refl _) _;have b2:Below (w.alloc (.cells (bcells s B) 34)).heap.size (w.alloc (.cells (bcells s B) 34)) wz:=by rw[hwz];exact(Below.refl _ _).alloc (Nat.le_refl _) _
 have HB:Hid (Below w.heap.size w wz):=Hd (below_via b1 b2);have HX:Hid (Bx wz w.heap.size s B):=Hd (Bx.below (w:=(w.alloc (.cells (bcells s B) 34))) (heap_alloc_new _ _) b2);have HH:Hid (Ro wz (w.heap.size+1) #[.int .i64 3,.int .i64 id,.int .i64 1] 95):=Hd (by rw[hwz,show w.heap.size+1=(w.alloc (.cells (bcells s B) 34)).heap.size by simp];exact Ro.new _ _ _);clear hwz b1 b2;go_wp2_with (refine wpList_load_bx _ rfl rfl HX.o (by kernel_rfl) ?_)
 with_reducible refine(bvalid s B _ (HR.o.below HB.o) HI.o HSM.o).mono ?_
 rintro e w1 ⟨⟨r,rfl,hr⟩,hb⟩;replace HB:=Hd (below_via HB.o hb);replace HX:=Hd (HX.o.below hb);replace HH:=Hd (HH.o.below hb);obtain rfl:r=true:=hr.2 HV.o;clear hb hr;have d0:w1.cell? ⟨w.heap.size+1,0,none⟩=some (.int .i64 3):=HH.o.cell 0;have d1:w1.cell? ⟨w.heap.size+1,1,none⟩=some (.int .i64 id):=HH.o.cell 1;have d2:w1.cell? ⟨w.heap.size+1,2,none⟩=some (.int .i64 1):=HH.o.cell 2;have HW1:Hid (Below w.heap.size w w1):=HB
 obtain⟨_,oa,ocp,hov,hof⟩:=(HR.o.ob.below HB.o).form
 obtain⟨_,fa,fcp,hfv,_⟩:=(HR.o.s1.f.below HB.o).form
 have c0:w1.cell? ⟨w.heap.size,0,none⟩=some (.slice oa B.ob.length ocp):=by rw[<-hov];exact HX.o.cell 0
 have c1:w1.cell? ⟨w.heap.size,22,none⟩=some (.slice fa B.s1.fld.length fcp):=by rw[<-hfv];exact HX.o.cell 22
 have HF:Hid (Rw ic 1 w1 (.slice fa B.s1.fld.length fcp) B.s1.fld):=Hd (by rw[<-hfv];exact HR.o.s1.f.below HB.o);have HOF:=Hd hof;have HN:Hid (B.ob.length<=500):=Hd (by have h:=HV.o.num;unfold vNum at h;exact h.2.2.2.2.2.1);have hn5:B.ob.length<=500:=HN.o;clear hov hfv hof;go_wp2_with fail
 clear c0 c1 d0 d1 d2
 go_loopw [10,54] (fun lv i wr=>HpL w1 cs B 3 id 1 lv i wr) (fun _ i _=>B.ob.length-(intOf i).toNat)
 case atStart=>exact⟨0,none,0,by omega,rfl,rfl,Below.refl _ _,Ow.nil _ _ _⟩
 obtain⟨k,la,lc,hk,rfl,rfl,hb,ho⟩:=hrel
 have HBR:=Hd hb;have HOW:=Hd ho;have HLK:Hid ((hapK cs B 3 id 1 (B.ob.take k)).length<=1000):=Hd (by have h:=hapK_len cs B 3 id 1 (B.ob.take k);rw[List.length_take] at h;omega);clear hb ho
 by_cases hkl:k<B.ob.length
 case neg=>
  obtain rfl:k=B.ob.length:=by omega
  rw[List.take_length] at HOW ⊢
  go_wp2_with fail
  go_returns
  exact⟨la,lc,rfl,HOW.o.base (fun b hb=>Nat.le_trans HB.o.size (HOW.o.typ b hb).1),below_via HB.o HBR.o⟩
 case pos=>
 obtain⟨x,hx⟩:∃x,B.ob[k]? =some x:=⟨_,List.getElem?_eq_getElem hkl⟩
 obtain⟨b,off,rfl,hlb,hc⟩:=HOF.o (by omega)
 have hrg:wr.rangeAt b (off+k*12) (oc x):=fun j u hu=>by rw[Nat.add_assoc];exact(HBR.o.cell (p:=⟨b,_,none⟩) hlb).trans (hc k x hx j u hu)
 have HRG:=Hd hrg;have HXX:=Hd hx;have i1:(0:Int)<=(k:Int):=by omega
 have i2:(k:Int)<(B.ob.length:Int):=by omega
 clear hc hrg hx;go_wp2_with (first|(refine wpList_load_mid rfl 47 _ rfl b (off+k*12) rfl (oc x) _ HRG.o Tryz.underlying47 rfl rfl ?_)|(refine wpList_store_o rfl x _ _ rfl rfl rfl (heap_alloc_new _ _) rfl ?_))
 intro w3 hw3;have hbx:=boxed_o hw3.out
 obtain⟨T,hT⟩:∃n,n=wr.heap.size:=⟨_,rfl⟩
 rw[<-hT] at hbx ⊢
 have HZ:=Hd hbx.2;replace HOW:=Hd (HOW.o.below (hT▸hbx.1));replace HBR:=Hd (below_via HBR.o (hT▸hbx.1));have z0:w3.cell? ⟨T,0,none⟩=some (.int .i64 x.id):=by rw[cell_of_row w3 T 0 _ 47 (0,0) HZ.o];rfl
 clear hw3 hbx hT i1 i2 hlb HRG
 obtain⟨r,hr⟩:∃r,decide (x.id∈B.s1.fld)=r:=⟨_,rfl⟩
 have HRR:=Hd hr;clear hr;go_wp2_with fail
 with_reducible refine(containsI _ B.s1.fld x.id r _ (HF.o.below HBR.o) HRR.o).mono ?_
 rintro e w4 ⟨rfl,hb⟩;replace HBR:=Hd (below_via HBR.o hb);replace HOW:=Hd (HOW.o.below hb);replace HZ:Hid (w4.heap[T]? =some (.cells (oc x).toArray 47 (0,0))):=Hd (Ro.below HZ.o hb);clear hb z0
 cases r
 case false=>
  have hno:hapK cs B 3 id 1 (B.ob.take (k+1))=hapK cs B 3 id 1 (B.ob.take k):=hapK_no HXX.o (by have h:=HRR.o;unfold abt Bd.seat;simpa using h);have HNO:=Hd hno;clear hno;go_wp2_with fail
  go_roundw
  case rel=>exact⟨k+1,la,lc,by omega,by go_num,by rw[HNO.o],HBR.o,by rw[HNO.o];exact HOW.o⟩
  case measure=>simp[intOf];omega
 case true=>
  have hyes:hapK cs B 3 id 1 (B.ob.take (k+1))=hapK cs B 3 id 1 (B.ob.take k)++trO cs 3 x:=hapK_yes HXX.o (by have h:=HRR.o;unfold abt Bd.seat;simpa using h);have HYES:=Hd hyes;have HLT:Hid ((trO cs 3 x).length<=2):=Hd (trO_len cs 3 x);have d0:w4.cell? ⟨w.heap.size+1,0,none⟩=some (.int .i64 3):=(HH.o.below HBR.o).cell 0;clear hyes;go_wp2_with (refine wpList_load_o x _ rfl rfl HZ.o (by kernel_rfl) ?_)
  with_reducible refine(tofv v cs x 3 _ ((HCS.o.below HB.o).below HBR.o) HL.o).mono ?_
  rintro e w5 ⟨ma,mc,rfl,hm,hb⟩;replace HBR:=Hd (below_via HBR.o hb);replace HOW:=Hd (HOW.o.below hb);have HM:=Hd (Rw.of_ow hm);clear hb hm d0 HZ;go_wp2_with (at_builtin;refine wpList_append_ow (f:=itc) (sz:=5) rfl _ _ 30 rfl w1.heap.size 73 (.agg #[.int .i64 0,.int .i64 0,.int .i64 0,.int .i64 0,.slice none 0 0]) 56 Tryz.underlying30 infoX rfl (by decide) _ ((hapK cs B 3 id 1 (B.ob.take k)).map nilI) rfl HOW.o itc_ok _ ((trO cs 3 x).map nilI) rfl HM.o ?c2 ?c3 ?c4 ?_)
  case c2=>simp[maxLen];have:=HLK.o;have:=HLT.o;omega
  case c3=>simp;have:=HLK.o;have:=HLT.o;omega
  case c4=>exact HBR.o.size
  intro v8 w8 ho8 hg8 hv8
  obtain⟨va,vc,rfl⟩:=ho8.form
  have hb8:Below w1.heap.size w1 w8:=HBR.o.grown hg8 HBR.o.size (fun q hq=>(HOW.o.typ q hq).1);rw[<-List.map_append,<-HYES.o,List.length_map] at ho8
  rw[show((hapK cs B 3 id 1 (B.ob.take k)).map nilI++(trO cs 3 x).map nilI).length=(hapK cs B 3 id 1 (B.ob.take (k+1))).length by rw[<-List.map_append,<-HYES.o,List.length_map]];have HO8:=Hd ho8;have HB8:=Hd hb8;clear ho8 hg8 hv8 hb8;go_wp2_with fail
  go_roundw
  case rel=>exact⟨k+1,va,vc,by omega,by go_num,rfl,HB8.o,HO8.o⟩
  case measure=>simp[intOf];omega
theorem hof(v:Value)(cs:List (Cd×List (Int×Nat)))(s:Bs)(B:Bd)(wh id pl:Int)(w:World)(hc:CsR w v cs)(hl:Lt cs)(h:BdR w s B)(hi:B.I)(hsm:B.Sm)(hid:Plain.I id)(hv:VB B):Calls Tryz.prog 89 #[v,bv s B,.agg #[.int .i64 wh,.int .i64 id,.int .i64 pl]] w (OfA w (hapK cs B wh id pl B.ob)):=by
 by_cases h1:wh=1\/wh=2
 ·exact hof_one v cs s B wh id pl w hc hl h hi hsm hid hv h1
 by_cases h3:wh=3/\(pl=0\/pl=1)
 ·obtain⟨rfl,rfl|rfl⟩:=h3
  ·exact hof_up0 v cs s B id w hc hl h hi hsm hv
  exact hof_up1 v cs s B id w hc hl h hi hsm hv
 exact hof_no v cs s B wh id pl w hc hl h hi hsm hv (by omega) (by omega) (by omega)
end Go.Proofs.YtpbepnpnpopmfaaGreat
