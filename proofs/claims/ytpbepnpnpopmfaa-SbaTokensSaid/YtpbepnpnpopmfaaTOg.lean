/- The triggers of a happening, by the code and by the reference. -/
import Derived.Test.YtpbepnpnpopmfaaTOf
import Derived.Test.YtpbepnpnpopmfaaTFi
import Derived.Test.YtpbepnpnpopmfaaTDp
import Derived.Deep.DeepCutAuto
import Derived.LoopTactic
import Derived.Deep.MidRow
namespace Go.Proofs.Ytpbepnpnpopmfaa
open Go.RowKit Plain
set_option linter.unusedVariables false
set_option linter.unusedSimpArgs false

/-- the triggers of an object with an occasion -/
def Plain.trO(cs:List (Cd×List (Int×Nat)))(wh:Int)(o:Ob):List It:=ofI (whens (cardX cs o.cd)) o wh
theorem trO_len(cs:List (Cd×List (Int×Nat)))(wh:Int)(o:Ob):(trO cs wh o).length≤2:=by
 unfold trO ofI;rw[ofK_two];exact Nat.le_trans (ofK_len _ _ _ _) (Nat.min_le_right _ _)
/-- is an object what a happening is about -/
def Plain.abt(B:Bd)(wh id pl:Int)(o:Ob):Bool:=if wh=3 then (decide (pl=0∨pl=1)&&decide (o.id∈(B.seat pl.toNat).fld)) else (decide (wh=1∨wh=2)&&decide (o.id=id))
/-- the triggers of a happening, of some objects -/
def Plain.hapK(cs:List (Cd×List (Int×Nat)))(B:Bd)(wh id pl:Int)(l:List Ob):List It:=l.flatMap (fun o=>if abt B wh id pl o then trO cs wh o else [])
theorem hapK_len(cs:List (Cd×List (Int×Nat)))(B:Bd)(wh id pl:Int)(l:List Ob):(hapK cs B wh id pl l).length≤2*l.length:=by
 induction l with
 |nil=>simp[hapK]
 |cons a l ih=>
  have h:=trO_len cs wh a
  have h2:(if abt B wh id pl a then trO cs wh a else []).length≤2:=by
   split
   ·exact h
   ·simp
  unfold hapK at*
  rw[List.flatMap_cons,List.length_append,List.length_cons];omega
theorem hapK_take{cs:List (Cd×List (Int×Nat))}{B:Bd}{wh id pl:Int}{l:List Ob}{k:Nat}{x:Ob}(hx:l[k]? =some x):hapK cs B wh id pl (l.take (k+1))=hapK cs B wh id pl (l.take k)++if abt B wh id pl x then trO cs wh x else []:=by
 unfold hapK;rw[List.take_add_one,hx,List.flatMap_append]
 simp
theorem hapK_yes{cs:List (Cd×List (Int×Nat))}{B:Bd}{wh id pl:Int}{l:List Ob}{k:Nat}{x:Ob}(hx:l[k]? =some x)(h:abt B wh id pl x=true):hapK cs B wh id pl (l.take (k+1))=hapK cs B wh id pl (l.take k)++trO cs wh x:=by
 rw[hapK_take hx,h]
 rfl
theorem hapK_no{cs:List (Cd×List (Int×Nat))}{B:Bd}{wh id pl:Int}{l:List Ob}{k:Nat}{x:Ob}(hx:l[k]? =some x)(h:abt B wh id pl x=false):hapK cs B wh id pl (l.take (k+1))=hapK cs B wh id pl (l.take k):=by
 rw[hapK_take hx,h]
 simp
theorem hapK_none{cs:List (Cd×List (Int×Nat))}{B:Bd}{wh id pl:Int}{l:List Ob}(h:∀x∈l,abt B wh id pl x=false):hapK cs B wh id pl l=[]:=by
 unfold hapK;rw[List.flatMap_eq_nil_iff];intro x hx;simp[h x hx]
/-- one object has the id -/
theorem hapK_one{cs:List (Cd×List (Int×Nat))}{B:Bd}{wh id pl:Int}(hwh:wh=1∨wh=2):∀(l:List Ob) (k:Nat) (x:Ob),(l.map Ob.id).Nodup→l[k]? =some x→x.id=id→hapK cs B wh id pl l=trO cs wh x
 |[],_,_,_,h,_=>by simp at h
 |a::l,0,x,hn,h,he=>by
  simp at h
  subst h;have hn2:=List.nodup_cons.1 (by simpa using hn:(a.id::l.map Ob.id).Nodup);have h1:abt B wh id pl a=true:=by unfold abt;rw[if_neg (by omega)];simp[hwh,he]
  have h2:hapK cs B wh id pl l=[]:=hapK_none (fun y hy=>by
   unfold abt;rw[if_neg (by omega)]
   have:y.id≠id:=fun e=>hn2.1 (List.mem_map.2 ⟨y,hy,e.trans he.symm⟩)
   simp[this])
  unfold hapK at*
  rw[List.flatMap_cons,h2,h1]
  simp
 |a::l,k+1,x,hn,h,he=>by
  simp at h
  have hn2:=List.nodup_cons.1 (by simpa using hn:(a.id::l.map Ob.id).Nodup)
  have h1:abt B wh id pl a=false:=by
   unfold abt;rw[if_neg (by omega)]
   have:a.id≠id:=fun e=>hn2.1 (List.mem_map.2 ⟨x,List.mem_of_getElem? h,he.trans e.symm⟩)
   simp[this]
  have h2:=hapK_one (cs:=cs) (B:=B) (pl:=pl) hwh l k x hn2.2 h he;unfold hapK at*
  rw[List.flatMap_cons,h2,h1]
  simp
theorem VB.ids{B:Bd}(h:VB B):(B.ob.map Ob.id).Nodup:=ids_nodup (fun i o hi=>(h.plc.ob i o hi).2.1)
/-- a list of items without targets in a row of our own -/
def OfA(w:World)(l:List It)(e:Ending)(w':World):Prop:=∃a c,e= .returned (.slice a l.length c)∧Ow itc 5 45 w' w.heap.size (.slice a l.length c) (l.map nilI)∧Below w.heap.size w w'
theorem OfA.none{w w':World}(hb:Below w.heap.size w w'):OfA w [] (.returned (.slice Option.none 0 0)) w':=⟨Option.none,0,rfl,Ow.nil _ _ _,hb⟩
theorem wpList_load_o{ops:Array Oper}{rest:List Oper}{op:Oper}{a:Act}{w:World}{Q:Exit→Act→World→Prop}{P:Nat}(x:Ob)(p:Operand)(ho:op.op= .load 42 p)(hx:a.eval p= .pointer (some ⟨P,0,none⟩))(h:w.heap[P]? =some (.cells (oc x).toArray 42 (0,0)))(hw:Region.wanted op (yielded ops a.tmps)=true)
  (hK:wpList Try.prog ops Q rest (a.put op.dst (.agg (oc x).toArray)) w):wpList Try.prog ops Q (op::rest) a w:=by
 unfold wpList;rw[if_pos hw];refine .inl (wp_load_mid 42 p ho P 0 hx (oc x) _ (fun j u hu=> ?_) Try.underlying42 rfl (by kernel_rfl) hK);rw[Nat.zero_add,cell_of_row w P j _ 42 (0,0) h]
 simpa using hu
theorem boxed_o{W W':World}{old:Array Value}{x:Ob}(h:W' =(W.alloc (.cells old 42)).setRow W.heap.size (oc x).toArray):Below W.heap.size W W'∧W'.heap[W.heap.size]? =some (.cells (oc x).toArray 42 (0,0)):=by
 have b1:Below W.heap.size W (W.alloc (.cells old 42)):=(Below.refl _ _).alloc (Nat.le_refl _) _
 exact⟨belowOnl b1 (by rw[h];exact Onl.setRow (Onl.refl _ _) (.inl (by simp)) _:Onl [W.heap.size] _ W') (by simp) b1.size,by rw[h];exact setRow_heap _ _ _ _ 42 _ (heap_alloc_new _ _)⟩
theorem tofv(v:Value)(cs:List (Cd×List (Int×Nat)))(o:Ob)(wh:Int)(w:World)(h:CsR w v cs)(hl:Lt cs):Calls Try.prog 76 #[v,.agg (oc o).toArray,.int .i64 wh] w (OfA w (trO cs wh o)):=tof v cs o wh w h hl
theorem Rw.of_ow{w:World}{base:Nat}{v:Value}{l:List It}(h:Ow itc 5 45 w base v (l.map nilI)):Rw itc 5 w v (l.map nilI):=h.rw itc_len
set_option maxRecDepth 100000 in
set_option maxHeartbeats 4000000 in
theorem hof_bad(v:Value)(cs:List (Cd×List (Int×Nat)))(s:Bs)(B:Bd)(wh id pl:Int)(w:World)(hc:CsR w v cs)(hl:Lt cs)(h:BdR w s B)(hi:B.I)(hsm:B.Sm)(hv:¬VB B):Calls Try.prog 66 #[v,bv s B,.agg #[.int .i64 wh,.int .i64 id,.int .i64 pl]] w (OfA w []):=by
 have HCS:=Lib.hid hc;have HL:=Lib.hid hl;have HR:=Lib.hid h;have HI:=Lib.hid hi;have HSM:=Lib.hid hsm;have HV:=Lib.hid hv;clear hc hl h hi hsm hv;go_enter Try.func66,Try.ntmps66
 go_upto_region 1 with fail
 obtain⟨wz,hwz⟩:∃W,W=((w.alloc (.cells (bcells s B) 34)).alloc (.cells #[.int .i64 wh,.int .i64 id,.int .i64 pl] 110)):=⟨_,rfl⟩
 change Code.wp Try.prog _ _ _ ((w.alloc (.cells (bcells s B) 34)).alloc (.cells #[.int .i64 wh,.int .i64 id,.int .i64 pl] 110));rw[←hwz];have b1:Below w.heap.size w (w.alloc (.cells (bcells s B) 34)):=(Below.refl _ _).alloc (Nat.le_refl _) _;have b2:Below (w.alloc (.cells (bcells s B) 34)).heap.size (w.alloc (.cells (bcells s B) 34)) wz:=by rw[hwz];exact(Below.refl _ _).alloc (Nat.le_refl _) _
 have HB:Hid (Below w.heap.size w wz):=Lib.hid (below_via b1 b2);have HX:Hid (Bx wz w.heap.size s B):=Lib.hid (Bx.below (w:=(w.alloc (.cells (bcells s B) 34))) (heap_alloc_new _ _) b2);have HH:Hid (Ro wz (w.heap.size+1) #[.int .i64 wh,.int .i64 id,.int .i64 pl] 110):=Lib.hid (by rw[hwz,show w.heap.size+1=(w.alloc (.cells (bcells s B) 34)).heap.size by simp];exact Ro.new _ _ _);clear hwz b1 b2;go_wp2_with (refine wpList_load_bx _ rfl rfl HX.out (by kernel_rfl) ?_)
 with_reducible refine(bvalid s B _ (HR.out.below HB.out) HI.out HSM.out).mono ?_
 rintro e w1 ⟨⟨r,rfl,hr⟩,hb⟩;replace HB:=Lib.hid (below_via HB.out hb);replace HX:=Lib.hid (HX.out.below hb);replace HH:=Lib.hid (HH.out.below hb);obtain rfl:r=false:=by cases r with|false=>rfl|true=>exact absurd (hr.1 rfl) HV.out
 clear hb hr;go_wp2_with fail
 go_returns;exact OfA.none HB.out
set_option maxRecDepth 100000 in
set_option maxHeartbeats 4000000 in
theorem hof_one(v:Value)(cs:List (Cd×List (Int×Nat)))(s:Bs)(B:Bd)(wh id pl:Int)(w:World)(hc:CsR w v cs)(hl:Lt cs)(h:BdR w s B)(hi:B.I)(hsm:B.Sm)(hid:Plain.I id)(hv:VB B)(hwh:wh=1∨wh=2):Calls Try.prog 66 #[v,bv s B,.agg #[.int .i64 wh,.int .i64 id,.int .i64 pl]] w (OfA w (hapK cs B wh id pl B.ob)):=by
 have HID:=Lib.hid hid;clear hid;rcases hwh with rfl|rfl
 ·have HCS:=Lib.hid hc
  have HL:=Lib.hid hl;have HR:=Lib.hid h;have HI:=Lib.hid hi;have HSM:=Lib.hid hsm;have HV:=Lib.hid hv;clear hc hl h hi hsm hv;go_enter Try.func66,Try.ntmps66
  go_upto_region 1 with fail
  obtain⟨wz,hwz⟩:∃W,W=((w.alloc (.cells (bcells s B) 34)).alloc (.cells #[.int .i64 1,.int .i64 id,.int .i64 pl] 110)):=⟨_,rfl⟩
  change Code.wp Try.prog _ _ _ ((w.alloc (.cells (bcells s B) 34)).alloc (.cells #[.int .i64 1,.int .i64 id,.int .i64 pl] 110));rw[←hwz];have b1:Below w.heap.size w (w.alloc (.cells (bcells s B) 34)):=(Below.refl _ _).alloc (Nat.le_refl _) _;have b2:Below (w.alloc (.cells (bcells s B) 34)).heap.size (w.alloc (.cells (bcells s B) 34)) wz:=by rw[hwz];exact(Below.refl _ _).alloc (Nat.le_refl _) _
  have HB:Hid (Below w.heap.size w wz):=Lib.hid (below_via b1 b2);have HX:Hid (Bx wz w.heap.size s B):=Lib.hid (Bx.below (w:=(w.alloc (.cells (bcells s B) 34))) (heap_alloc_new _ _) b2);have HH:Hid (Ro wz (w.heap.size+1) #[.int .i64 1,.int .i64 id,.int .i64 pl] 110):=Lib.hid (by rw[hwz,show w.heap.size+1=(w.alloc (.cells (bcells s B) 34)).heap.size by simp];exact Ro.new _ _ _);clear hwz b1 b2;go_wp2_with (refine wpList_load_bx _ rfl rfl HX.out (by kernel_rfl) ?_)
  with_reducible refine(bvalid s B _ (HR.out.below HB.out) HI.out HSM.out).mono ?_
  rintro e w1 ⟨⟨r,rfl,hr⟩,hb⟩;replace HB:=Lib.hid (below_via HB.out hb);replace HX:=Lib.hid (HX.out.below hb);replace HH:=Lib.hid (HH.out.below hb);obtain rfl:r=true:=hr.2 HV.out;clear hb hr;have d0:w1.cell? ⟨w.heap.size+1,0,none⟩=some (.int .i64 1):=HH.out.cell 0;have d1:w1.cell? ⟨w.heap.size+1,1,none⟩=some (.int .i64 id):=HH.out.cell 1;have d2:w1.cell? ⟨w.heap.size+1,2,none⟩=some (.int .i64 pl):=HH.out.cell 2;go_wp2_with (refine wpList_load_bx _ rfl rfl HX.out (by kernel_rfl) ?_)
  with_reducible refine(bfind s B id _ (HR.out.below HB.out) HI.out HSM.out HID.out).mono ?_
  rintro e w2 ⟨hA,hb⟩;replace HB:=Lib.hid (below_via HB.out hb);replace HH:=Lib.hid (HH.out.below hb);clear hb d0 d1 d2;rcases hA with⟨_,k,x,hx,he,rfl⟩|⟨hno,c,hc,rfl⟩
  ·go_wp2_with (refine wpList_store_o rfl x _ _ rfl rfl rfl (heap_alloc_new _ _) rfl ?_)
   intro w3 hw3;have hbx:=boxed_o hw3.out;have HZ:=Lib.hid hbx.2;replace HB:=Lib.hid (below_via HB.out hbx.1);replace HH:=Lib.hid (HH.out.below hbx.1);have HW:Hid (hapK cs B 1 id pl B.ob=trO cs 1 x):=Lib.hid (hapK_one (Or.inl rfl) B.ob k x (VB.ids HV.out) hx he);have d0:w3.cell? ⟨w.heap.size+1,0,none⟩=some (.int .i64 1):=HH.out.cell 0;have HSZ3:Hid (w.heap.size≤w3.heap.size):=Lib.hid HB.out.size;clear hw3 hbx hx he;go_wp2_with (refine wpList_load_o x _ rfl rfl HZ.out (by kernel_rfl) ?_)
   with_reducible refine(tofv v cs x 1 _ (HCS.out.below HB.out) HL.out).mono ?_
   rintro e w4 ⟨la,lc,rfl,ho,hb⟩;replace HB:=Lib.hid (below_via HB.out hb);have HO:=Lib.hid ho;have HSZ:Hid (w.heap.size≤w3.heap.size):=Lib.hid (by have:=HSZ3.out;omega);clear hb ho d0;go_wp2_with fail
   go_returns
   exact⟨la,lc,by rw[HW.out];rfl,by rw[HW.out];exact HO.out.base (fun b hb=>Nat.le_trans HSZ.out (HO.out.typ b hb).1),HB.out⟩
  ·have tc:(c !=0)=true:=by simpa using hc
   have HW:Hid (hapK cs B 1 id pl B.ob=[]):=Lib.hid (hapK_none (fun x hx=>by
    have h1:=hno HV.out x hx;unfold abt;rw[if_neg (by omega)];simp[h1]))
   clear hno hc;go_wp2_with (refine wpList_store_o rfl zob _ _ rfl rfl rfl (heap_alloc_new _ _) rfl ?_)
   intro w3 hw3;have hbx:=boxed_o hw3.out;replace HB:=Lib.hid (below_via HB.out hbx.1);clear hw3 hbx;go_wp2_with fail
   go_returns;rw[HW.out];exact OfA.none HB.out
 ·have HCS:=Lib.hid hc
  have HL:=Lib.hid hl;have HR:=Lib.hid h;have HI:=Lib.hid hi;have HSM:=Lib.hid hsm;have HV:=Lib.hid hv;clear hc hl h hi hsm hv;go_enter Try.func66,Try.ntmps66
  go_upto_region 1 with fail
  obtain⟨wz,hwz⟩:∃W,W=((w.alloc (.cells (bcells s B) 34)).alloc (.cells #[.int .i64 2,.int .i64 id,.int .i64 pl] 110)):=⟨_,rfl⟩
  change Code.wp Try.prog _ _ _ ((w.alloc (.cells (bcells s B) 34)).alloc (.cells #[.int .i64 2,.int .i64 id,.int .i64 pl] 110));rw[←hwz];have b1:Below w.heap.size w (w.alloc (.cells (bcells s B) 34)):=(Below.refl _ _).alloc (Nat.le_refl _) _;have b2:Below (w.alloc (.cells (bcells s B) 34)).heap.size (w.alloc (.cells (bcells s B) 34)) wz:=by rw[hwz];exact(Below.refl _ _).alloc (Nat.le_refl _) _
  have HB:Hid (Below w.heap.size w wz):=Lib.hid (below_via b1 b2);have HX:Hid (Bx wz w.heap.size s B):=Lib.hid (Bx.below (w:=(w.alloc (.cells (bcells s B) 34))) (heap_alloc_new _ _) b2);have HH:Hid (Ro wz (w.heap.size+1) #[.int .i64 2,.int .i64 id,.int .i64 pl] 110):=Lib.hid (by rw[hwz,show w.heap.size+1=(w.alloc (.cells (bcells s B) 34)).heap.size by simp];exact Ro.new _ _ _);clear hwz b1 b2;go_wp2_with (refine wpList_load_bx _ rfl rfl HX.out (by kernel_rfl) ?_)
  with_reducible refine(bvalid s B _ (HR.out.below HB.out) HI.out HSM.out).mono ?_
  rintro e w1 ⟨⟨r,rfl,hr⟩,hb⟩;replace HB:=Lib.hid (below_via HB.out hb);replace HX:=Lib.hid (HX.out.below hb);replace HH:=Lib.hid (HH.out.below hb);obtain rfl:r=true:=hr.2 HV.out;clear hb hr;have d0:w1.cell? ⟨w.heap.size+1,0,none⟩=some (.int .i64 2):=HH.out.cell 0;have d1:w1.cell? ⟨w.heap.size+1,1,none⟩=some (.int .i64 id):=HH.out.cell 1;have d2:w1.cell? ⟨w.heap.size+1,2,none⟩=some (.int .i64 pl):=HH.out.cell 2;go_wp2_with (refine wpList_load_bx _ rfl rfl HX.out (by kernel_rfl) ?_)
  with_reducible refine(bfind s B id _ (HR.out.below HB.out) HI.out HSM.out HID.out).mono ?_
  rintro e w2 ⟨hA,hb⟩;replace HB:=Lib.hid (below_via HB.out hb);replace HH:=Lib.hid (HH.out.below hb);clear hb d0 d1 d2;rcases hA with⟨_,k,x,hx,he,rfl⟩|⟨hno,c,hc,rfl⟩
  ·go_wp2_with (refine wpList_store_o rfl x _ _ rfl rfl rfl (heap_alloc_new _ _) rfl ?_)
   intro w3 hw3;have hbx:=boxed_o hw3.out;have HZ:=Lib.hid hbx.2;replace HB:=Lib.hid (below_via HB.out hbx.1);replace HH:=Lib.hid (HH.out.below hbx.1);have HW:Hid (hapK cs B 2 id pl B.ob=trO cs 2 x):=Lib.hid (hapK_one (Or.inr rfl) B.ob k x (VB.ids HV.out) hx he);have d0:w3.cell? ⟨w.heap.size+1,0,none⟩=some (.int .i64 2):=HH.out.cell 0;have HSZ3:Hid (w.heap.size≤w3.heap.size):=Lib.hid HB.out.size;clear hw3 hbx hx he;go_wp2_with (refine wpList_load_o x _ rfl rfl HZ.out (by kernel_rfl) ?_)
   with_reducible refine(tofv v cs x 2 _ (HCS.out.below HB.out) HL.out).mono ?_
   rintro e w4 ⟨la,lc,rfl,ho,hb⟩;replace HB:=Lib.hid (below_via HB.out hb);have HO:=Lib.hid ho;have HSZ:Hid (w.heap.size≤w3.heap.size):=Lib.hid (by have:=HSZ3.out;omega);clear hb ho d0;go_wp2_with fail
   go_returns
   exact⟨la,lc,by rw[HW.out];rfl,by rw[HW.out];exact HO.out.base (fun b hb=>Nat.le_trans HSZ.out (HO.out.typ b hb).1),HB.out⟩
  ·have tc:(c !=0)=true:=by simpa using hc
   have HW:Hid (hapK cs B 2 id pl B.ob=[]):=Lib.hid (hapK_none (fun x hx=>by
    have h1:=hno HV.out x hx;unfold abt;rw[if_neg (by omega)];simp[h1]))
   clear hno hc;go_wp2_with (refine wpList_store_o rfl zob _ _ rfl rfl rfl (heap_alloc_new _ _) rfl ?_)
   intro w3 hw3;have hbx:=boxed_o hw3.out;replace HB:=Lib.hid (below_via HB.out hbx.1);clear hw3 hbx;go_wp2_with fail
   go_returns;rw[HW.out];exact OfA.none HB.out
set_option maxRecDepth 100000 in
set_option maxHeartbeats 4000000 in
theorem hof_no(v:Value)(cs:List (Cd×List (Int×Nat)))(s:Bs)(B:Bd)(wh id pl:Int)(w:World)(hc:CsR w v cs)(hl:Lt cs)(h:BdR w s B)(hi:B.I)(hsm:B.Sm)(hv:VB B)(h1:wh≠1)(h2:wh≠2)(h3:wh=3→pl≠0∧pl≠1):Calls Try.prog 66 #[v,bv s B,.agg #[.int .i64 wh,.int .i64 id,.int .i64 pl]] w (OfA w (hapK cs B wh id pl B.ob)):=by
 have HW:Hid (hapK cs B wh id pl B.ob=[]):=Lib.hid (hapK_none (fun x hx=>by
  unfold abt
  by_cases e:wh=3
  ·rw[if_pos e];simp;intro h;have:=h3 e;omega
  ·rw[if_neg e];simp;omega))
 have q1:(wh==1)=false:=by simpa using h1
 have q2:(wh==2)=false:=by simpa using h2
 rw[HW.out]
 by_cases e:wh=3
 ·subst e
  have p1:(pl !=0)=true:=by simpa using (h3 rfl).1
  have p2:(pl !=1)=true:=by simpa using (h3 rfl).2
  clear h1 h2 h3 q1 q2 HW;have HCS:=Lib.hid hc;have HL:=Lib.hid hl;have HR:=Lib.hid h;have HI:=Lib.hid hi;have HSM:=Lib.hid hsm;have HV:=Lib.hid hv;clear hc hl h hi hsm hv;go_enter Try.func66,Try.ntmps66
  go_upto_region 1 with fail
  obtain⟨wz,hwz⟩:∃W,W=((w.alloc (.cells (bcells s B) 34)).alloc (.cells #[.int .i64 3,.int .i64 id,.int .i64 pl] 110)):=⟨_,rfl⟩
  change Code.wp Try.prog _ _ _ ((w.alloc (.cells (bcells s B) 34)).alloc (.cells #[.int .i64 3,.int .i64 id,.int .i64 pl] 110));rw[←hwz];have b1:Below w.heap.size w (w.alloc (.cells (bcells s B) 34)):=(Below.refl _ _).alloc (Nat.le_refl _) _;have b2:Below (w.alloc (.cells (bcells s B) 34)).heap.size (w.alloc (.cells (bcells s B) 34)) wz:=by rw[hwz];exact(Below.refl _ _).alloc (Nat.le_refl _) _
  have HB:Hid (Below w.heap.size w wz):=Lib.hid (below_via b1 b2);have HX:Hid (Bx wz w.heap.size s B):=Lib.hid (Bx.below (w:=(w.alloc (.cells (bcells s B) 34))) (heap_alloc_new _ _) b2);have HH:Hid (Ro wz (w.heap.size+1) #[.int .i64 3,.int .i64 id,.int .i64 pl] 110):=Lib.hid (by rw[hwz,show w.heap.size+1=(w.alloc (.cells (bcells s B) 34)).heap.size by simp];exact Ro.new _ _ _);clear hwz b1 b2;go_wp2_with (refine wpList_load_bx _ rfl rfl HX.out (by kernel_rfl) ?_)
  with_reducible refine(bvalid s B _ (HR.out.below HB.out) HI.out HSM.out).mono ?_
  rintro e w1 ⟨⟨r,rfl,hr⟩,hb⟩;replace HB:=Lib.hid (below_via HB.out hb);replace HX:=Lib.hid (HX.out.below hb);replace HH:=Lib.hid (HH.out.below hb);obtain rfl:r=true:=hr.2 HV.out;clear hb hr;have d0:w1.cell? ⟨w.heap.size+1,0,none⟩=some (.int .i64 3):=HH.out.cell 0;have d1:w1.cell? ⟨w.heap.size+1,1,none⟩=some (.int .i64 id):=HH.out.cell 1;have d2:w1.cell? ⟨w.heap.size+1,2,none⟩=some (.int .i64 pl):=HH.out.cell 2;go_wp2_with fail
  go_returns;exact OfA.none HB.out
 ·have q3:(wh==3)=false:=by simpa using e
  clear h1 h2 h3 e HW;have HCS:=Lib.hid hc;have HL:=Lib.hid hl;have HR:=Lib.hid h;have HI:=Lib.hid hi;have HSM:=Lib.hid hsm;have HV:=Lib.hid hv;clear hc hl h hi hsm hv;go_enter Try.func66,Try.ntmps66
  go_upto_region 1 with fail
  obtain⟨wz,hwz⟩:∃W,W=((w.alloc (.cells (bcells s B) 34)).alloc (.cells #[.int .i64 wh,.int .i64 id,.int .i64 pl] 110)):=⟨_,rfl⟩
  change Code.wp Try.prog _ _ _ ((w.alloc (.cells (bcells s B) 34)).alloc (.cells #[.int .i64 wh,.int .i64 id,.int .i64 pl] 110));rw[←hwz];have b1:Below w.heap.size w (w.alloc (.cells (bcells s B) 34)):=(Below.refl _ _).alloc (Nat.le_refl _) _;have b2:Below (w.alloc (.cells (bcells s B) 34)).heap.size (w.alloc (.cells (bcells s B) 34)) wz:=by rw[hwz];exact(Below.refl _ _).alloc (Nat.le_refl _) _
  have HB:Hid (Below w.heap.size w wz):=Lib.hid (below_via b1 b2);have HX:Hid (Bx wz w.heap.size s B):=Lib.hid (Bx.below (w:=(w.alloc (.cells (bcells s B) 34))) (heap_alloc_new _ _) b2);have HH:Hid (Ro wz (w.heap.size+1) #[.int .i64 wh,.int .i64 id,.int .i64 pl] 110):=Lib.hid (by rw[hwz,show w.heap.size+1=(w.alloc (.cells (bcells s B) 34)).heap.size by simp];exact Ro.new _ _ _);clear hwz b1 b2;go_wp2_with (refine wpList_load_bx _ rfl rfl HX.out (by kernel_rfl) ?_)
  with_reducible refine(bvalid s B _ (HR.out.below HB.out) HI.out HSM.out).mono ?_
  rintro e w1 ⟨⟨r,rfl,hr⟩,hb⟩;replace HB:=Lib.hid (below_via HB.out hb);replace HX:=Lib.hid (HX.out.below hb);replace HH:=Lib.hid (HH.out.below hb);obtain rfl:r=true:=hr.2 HV.out;clear hb hr;have d0:w1.cell? ⟨w.heap.size+1,0,none⟩=some (.int .i64 wh):=HH.out.cell 0;have d1:w1.cell? ⟨w.heap.size+1,1,none⟩=some (.int .i64 id):=HH.out.cell 1;have d2:w1.cell? ⟨w.heap.size+1,2,none⟩=some (.int .i64 pl):=HH.out.cell 2;go_wp2_with fail
  go_returns;exact OfA.none HB.out
/-- between the objects -/
def HpL(W:World)(cs:List (Cd×List (Int×Nat)))(B:Bd)(wh id pl:Int)(lv i:Value)(wr:World):Prop:=∃(k:Nat) (a:Option Addr) (c:Nat),k≤B.ob.length∧i= .int .i64 k∧lv= .slice a (hapK cs B wh id pl (B.ob.take k)).length c∧Below W.heap.size W wr∧Ow itc 5 45 wr W.heap.size (.slice a (hapK cs B wh id pl (B.ob.take k)).length c) ((hapK cs B wh id pl (B.ob.take k)).map nilI)
set_option maxRecDepth 100000 in
set_option maxHeartbeats 4000000 in
theorem hof_up0(v:Value)(cs:List (Cd×List (Int×Nat)))(s:Bs)(B:Bd)(id:Int)(w:World)(hc:CsR w v cs)(hl:Lt cs)(h:BdR w s B)(hi:B.I)(hsm:B.Sm)(hv:VB B):Calls Try.prog 66 #[v,bv s B,.agg #[.int .i64 3,.int .i64 id,.int .i64 0]] w (OfA w (hapK cs B 3 id 0 B.ob)):=by
 have HCS:=Lib.hid hc;have HL:=Lib.hid hl;have HR:=Lib.hid h;have HI:=Lib.hid hi;have HSM:=Lib.hid hsm;have HV:=Lib.hid hv;clear hc hl h hi hsm hv;go_enter Try.func66,Try.ntmps66
 go_upto_region 1 with fail
 obtain⟨wz,hwz⟩:∃W,W=((w.alloc (.cells (bcells s B) 34)).alloc (.cells #[.int .i64 3,.int .i64 id,.int .i64 0] 110)):=⟨_,rfl⟩
 change Code.wp Try.prog _ _ _ ((w.alloc (.cells (bcells s B) 34)).alloc (.cells #[.int .i64 3,.int .i64 id,.int .i64 0] 110));rw[←hwz];have b1:Below w.heap.size w (w.alloc (.cells (bcells s B) 34)):=(Below.refl _ _).alloc (Nat.le_refl _) _;have b2:Below (w.alloc (.cells (bcells s B) 34)).heap.size (w.alloc (.cells (bcells s B) 34)) wz:=by rw[hwz];exact(Below.refl _ _).alloc (Nat.le_refl _) _
 have HB:Hid (Below w.heap.size w wz):=Lib.hid (below_via b1 b2);have HX:Hid (Bx wz w.heap.size s B):=Lib.hid (Bx.below (w:=(w.alloc (.cells (bcells s B) 34))) (heap_alloc_new _ _) b2);have HH:Hid (Ro wz (w.heap.size+1) #[.int .i64 3,.int .i64 id,.int .i64 0] 110):=Lib.hid (by rw[hwz,show w.heap.size+1=(w.alloc (.cells (bcells s B) 34)).heap.size by simp];exact Ro.new _ _ _);clear hwz b1 b2;go_wp2_with (refine wpList_load_bx _ rfl rfl HX.out (by kernel_rfl) ?_)
 with_reducible refine(bvalid s B _ (HR.out.below HB.out) HI.out HSM.out).mono ?_
 rintro e w1 ⟨⟨r,rfl,hr⟩,hb⟩;replace HB:=Lib.hid (below_via HB.out hb);replace HX:=Lib.hid (HX.out.below hb);replace HH:=Lib.hid (HH.out.below hb);obtain rfl:r=true:=hr.2 HV.out;clear hb hr;have d0:w1.cell? ⟨w.heap.size+1,0,none⟩=some (.int .i64 3):=HH.out.cell 0;have d1:w1.cell? ⟨w.heap.size+1,1,none⟩=some (.int .i64 id):=HH.out.cell 1;have d2:w1.cell? ⟨w.heap.size+1,2,none⟩=some (.int .i64 0):=HH.out.cell 2;have HW1:Hid (Below w.heap.size w w1):=HB
 obtain⟨_,oa,ocp,hov,hof⟩:=(HR.out.ob.below HB.out).form
 obtain⟨_,fa,fcp,hfv,_⟩:=(HR.out.s0.f.below HB.out).form
 have c0:w1.cell? ⟨w.heap.size,0,none⟩=some (.slice oa B.ob.length ocp):=by rw[←hov];exact HX.out.cell 0
 have c1:w1.cell? ⟨w.heap.size,8,none⟩=some (.slice fa B.s0.fld.length fcp):=by rw[←hfv];exact HX.out.cell 8
 have HF:Hid (Rw ic 1 w1 (.slice fa B.s0.fld.length fcp) B.s0.fld):=Lib.hid (by rw[←hfv];exact HR.out.s0.f.below HB.out);have HOF:=Lib.hid hof;have HN:Hid (B.ob.length≤500):=Lib.hid (by have h:=HV.out.num;unfold vNum at h;exact h.2.2.2.2.2.1);have hn5:B.ob.length≤500:=HN.out;clear hov hfv hof;go_wp2_with fail
 clear c0 c1 d0 d1 d2
 go_loopw [10,54] (fun lv i wr=>HpL w1 cs B 3 id 0 lv i wr) (fun _ i _=>B.ob.length-(intOf i).toNat)
 case atStart=>exact⟨0,none,0,by omega,rfl,rfl,Below.refl _ _,Ow.nil _ _ _⟩
 case round=>
  obtain⟨k,la,lc,hk,rfl,rfl,hb,ho⟩:=hrel
  have HBR:=Lib.hid hb;have HOW:=Lib.hid ho;have HLK:Hid ((hapK cs B 3 id 0 (B.ob.take k)).length≤1000):=Lib.hid (by have h:=hapK_len cs B 3 id 0 (B.ob.take k);rw[List.length_take] at h;omega);clear hb ho
  by_cases hkl:k<B.ob.length
  case neg=>
   obtain rfl:k=B.ob.length:=by omega
   rw[List.take_length] at HOW ⊢
   go_wp2_with fail
   go_returns
   exact⟨la,lc,rfl,HOW.out.base (fun b hb=>Nat.le_trans HB.out.size (HOW.out.typ b hb).1),below_via HB.out HBR.out⟩
  case pos=>
  obtain⟨x,hx⟩:∃x,B.ob[k]? =some x:=⟨_,List.getElem?_eq_getElem hkl⟩
  obtain⟨b,off,rfl,hlb,hc⟩:=HOF.out (by omega)
  have hrg:wr.rangeAt b (off+k*12) (oc x):=fun j u hu=>by rw[Nat.add_assoc];exact(HBR.out.cell (p:=⟨b,_,none⟩) hlb).trans (hc k x hx j u hu)
  have HRG:=Lib.hid hrg;have HXX:=Lib.hid hx;have i1:(0:Int)≤(k:Int):=by omega
  have i2:(k:Int)<(B.ob.length:Int):=by omega
  clear hc hrg hx;go_wp2_with (first|(refine wpList_load_mid rfl 42 _ rfl b (off+k*12) rfl (oc x) _ HRG.out Try.underlying42 rfl rfl ?_)|(refine wpList_store_o rfl x _ _ rfl rfl rfl (heap_alloc_new _ _) rfl ?_))
  intro w3 hw3;have hbx:=boxed_o hw3.out
  obtain⟨T,hT⟩:∃n,n=wr.heap.size:=⟨_,rfl⟩
  rw[←hT] at hbx ⊢
  have HZ:=Lib.hid hbx.2;replace HOW:=Lib.hid (HOW.out.below (hT▸hbx.1));replace HBR:=Lib.hid (below_via HBR.out (hT▸hbx.1));have z0:w3.cell? ⟨T,0,none⟩=some (.int .i64 x.id):=by rw[cell_of_row w3 T 0 _ 42 (0,0) HZ.out];rfl
  clear hw3 hbx hT i1 i2 hlb HRG
  obtain⟨r,hr⟩:∃r,decide (x.id∈B.s0.fld)=r:=⟨_,rfl⟩
  have HRR:=Lib.hid hr;clear hr;go_wp2_with fail
  with_reducible refine(containsI _ B.s0.fld x.id r _ (HF.out.below HBR.out) HRR.out).mono ?_
  rintro e w4 ⟨rfl,hb⟩;replace HBR:=Lib.hid (below_via HBR.out hb);replace HOW:=Lib.hid (HOW.out.below hb);replace HZ:Hid (w4.heap[T]? =some (.cells (oc x).toArray 42 (0,0))):=Lib.hid (Ro.below HZ.out hb);clear hb z0
  cases r
  case false=>
   have hno:hapK cs B 3 id 0 (B.ob.take (k+1))=hapK cs B 3 id 0 (B.ob.take k):=hapK_no HXX.out (by have h:=HRR.out;unfold abt Bd.seat;simpa using h);have HNO:=Lib.hid hno;clear hno;go_wp2_with fail
   go_roundw
   case rel=>exact⟨k+1,la,lc,by omega,by go_num,by rw[HNO.out],HBR.out,by rw[HNO.out];exact HOW.out⟩
   case measure=>simp[intOf];omega
  case true=>
   have hyes:hapK cs B 3 id 0 (B.ob.take (k+1))=hapK cs B 3 id 0 (B.ob.take k)++trO cs 3 x:=hapK_yes HXX.out (by have h:=HRR.out;unfold abt Bd.seat;simpa using h);have HYES:=Lib.hid hyes;have HLT:Hid ((trO cs 3 x).length≤2):=Lib.hid (trO_len cs 3 x);have d0:w4.cell? ⟨w.heap.size+1,0,none⟩=some (.int .i64 3):=(HH.out.below HBR.out).cell 0;clear hyes;go_wp2_with (refine wpList_load_o x _ rfl rfl HZ.out (by kernel_rfl) ?_)
   with_reducible refine(tofv v cs x 3 _ ((HCS.out.below HB.out).below HBR.out) HL.out).mono ?_
   rintro e w5 ⟨ma,mc,rfl,hm,hb⟩;replace HBR:=Lib.hid (below_via HBR.out hb);replace HOW:=Lib.hid (HOW.out.below hb);have HM:=Lib.hid (Rw.of_ow hm);clear hb hm d0 HZ;go_wp2_with (at_builtin;refine wpList_append_ow (f:=itc) (sz:=5) rfl _ _ 30 rfl w1.heap.size 45 (.agg #[.int .i64 0,.int .i64 0,.int .i64 0,.int .i64 0,.slice none 0 0]) 56 Try.underlying30 infoX rfl (by decide) _ ((hapK cs B 3 id 0 (B.ob.take k)).map nilI) rfl HOW.out itc_ok _ ((trO cs 3 x).map nilI) rfl HM.out ?c2 ?c3 ?c4 ?_)
   case c2=>simp[maxLen];have:=HLK.out;have:=HLT.out;omega
   case c3=>simp;have:=HLK.out;have:=HLT.out;omega
   case c4=>exact HBR.out.size
   intro v8 w8 ho8 hg8 hv8
   obtain⟨va,vc,rfl⟩:=ho8.form
   have hb8:Below w1.heap.size w1 w8:=HBR.out.grown hg8 HBR.out.size (fun q hq=>(HOW.out.typ q hq).1);rw[←List.map_append,←HYES.out,List.length_map] at ho8
   rw[show((hapK cs B 3 id 0 (B.ob.take k)).map nilI++(trO cs 3 x).map nilI).length=(hapK cs B 3 id 0 (B.ob.take (k+1))).length by rw[←List.map_append,←HYES.out,List.length_map]];have HO8:=Lib.hid ho8;have HB8:=Lib.hid hb8;clear ho8 hg8 hv8 hb8;go_wp2_with fail
   go_roundw
   case rel=>exact⟨k+1,va,vc,by omega,by go_num,rfl,HB8.out,HO8.out⟩
   case measure=>simp[intOf];omega
set_option maxRecDepth 100000 in
set_option maxHeartbeats 4000000 in
theorem hof_up1(v:Value)(cs:List (Cd×List (Int×Nat)))(s:Bs)(B:Bd)(id:Int)(w:World)(hc:CsR w v cs)(hl:Lt cs)(h:BdR w s B)(hi:B.I)(hsm:B.Sm)(hv:VB B):Calls Try.prog 66 #[v,bv s B,.agg #[.int .i64 3,.int .i64 id,.int .i64 1]] w (OfA w (hapK cs B 3 id 1 B.ob)):=by
 have HCS:=Lib.hid hc;have HL:=Lib.hid hl;have HR:=Lib.hid h;have HI:=Lib.hid hi;have HSM:=Lib.hid hsm;have HV:=Lib.hid hv;clear hc hl h hi hsm hv;go_enter Try.func66,Try.ntmps66
 go_upto_region 1 with fail
 obtain⟨wz,hwz⟩:∃W,W=((w.alloc (.cells (bcells s B) 34)).alloc (.cells #[.int .i64 3,.int .i64 id,.int .i64 1] 110)):=⟨_,rfl⟩
 change Code.wp Try.prog _ _ _ ((w.alloc (.cells (bcells s B) 34)).alloc (.cells #[.int .i64 3,.int .i64 id,.int .i64 1] 110));rw[←hwz];have b1:Below w.heap.size w (w.alloc (.cells (bcells s B) 34)):=(Below.refl _ _).alloc (Nat.le_refl _) _;have b2:Below (w.alloc (.cells (bcells s B) 34)).heap.size (w.alloc (.cells (bcells s B) 34)) wz:=by rw[hwz];exact(Below.refl _ _).alloc (Nat.le_refl _) _
 have HB:Hid (Below w.heap.size w wz):=Lib.hid (below_via b1 b2);have HX:Hid (Bx wz w.heap.size s B):=Lib.hid (Bx.below (w:=(w.alloc (.cells (bcells s B) 34))) (heap_alloc_new _ _) b2);have HH:Hid (Ro wz (w.heap.size+1) #[.int .i64 3,.int .i64 id,.int .i64 1] 110):=Lib.hid (by rw[hwz,show w.heap.size+1=(w.alloc (.cells (bcells s B) 34)).heap.size by simp];exact Ro.new _ _ _);clear hwz b1 b2;go_wp2_with (refine wpList_load_bx _ rfl rfl HX.out (by kernel_rfl) ?_)
 with_reducible refine(bvalid s B _ (HR.out.below HB.out) HI.out HSM.out).mono ?_
 rintro e w1 ⟨⟨r,rfl,hr⟩,hb⟩;replace HB:=Lib.hid (below_via HB.out hb);replace HX:=Lib.hid (HX.out.below hb);replace HH:=Lib.hid (HH.out.below hb);obtain rfl:r=true:=hr.2 HV.out;clear hb hr;have d0:w1.cell? ⟨w.heap.size+1,0,none⟩=some (.int .i64 3):=HH.out.cell 0;have d1:w1.cell? ⟨w.heap.size+1,1,none⟩=some (.int .i64 id):=HH.out.cell 1;have d2:w1.cell? ⟨w.heap.size+1,2,none⟩=some (.int .i64 1):=HH.out.cell 2;have HW1:Hid (Below w.heap.size w w1):=HB
 obtain⟨_,oa,ocp,hov,hof⟩:=(HR.out.ob.below HB.out).form
 obtain⟨_,fa,fcp,hfv,_⟩:=(HR.out.s1.f.below HB.out).form
 have c0:w1.cell? ⟨w.heap.size,0,none⟩=some (.slice oa B.ob.length ocp):=by rw[←hov];exact HX.out.cell 0
 have c1:w1.cell? ⟨w.heap.size,22,none⟩=some (.slice fa B.s1.fld.length fcp):=by rw[←hfv];exact HX.out.cell 22
 have HF:Hid (Rw ic 1 w1 (.slice fa B.s1.fld.length fcp) B.s1.fld):=Lib.hid (by rw[←hfv];exact HR.out.s1.f.below HB.out);have HOF:=Lib.hid hof;have HN:Hid (B.ob.length≤500):=Lib.hid (by have h:=HV.out.num;unfold vNum at h;exact h.2.2.2.2.2.1);have hn5:B.ob.length≤500:=HN.out;clear hov hfv hof;go_wp2_with fail
 clear c0 c1 d0 d1 d2
 go_loopw [10,54] (fun lv i wr=>HpL w1 cs B 3 id 1 lv i wr) (fun _ i _=>B.ob.length-(intOf i).toNat)
 case atStart=>exact⟨0,none,0,by omega,rfl,rfl,Below.refl _ _,Ow.nil _ _ _⟩
 case round=>
  obtain⟨k,la,lc,hk,rfl,rfl,hb,ho⟩:=hrel
  have HBR:=Lib.hid hb;have HOW:=Lib.hid ho;have HLK:Hid ((hapK cs B 3 id 1 (B.ob.take k)).length≤1000):=Lib.hid (by have h:=hapK_len cs B 3 id 1 (B.ob.take k);rw[List.length_take] at h;omega);clear hb ho
  by_cases hkl:k<B.ob.length
  case neg=>
   obtain rfl:k=B.ob.length:=by omega
   rw[List.take_length] at HOW ⊢
   go_wp2_with fail
   go_returns
   exact⟨la,lc,rfl,HOW.out.base (fun b hb=>Nat.le_trans HB.out.size (HOW.out.typ b hb).1),below_via HB.out HBR.out⟩
  case pos=>
  obtain⟨x,hx⟩:∃x,B.ob[k]? =some x:=⟨_,List.getElem?_eq_getElem hkl⟩
  obtain⟨b,off,rfl,hlb,hc⟩:=HOF.out (by omega)
  have hrg:wr.rangeAt b (off+k*12) (oc x):=fun j u hu=>by rw[Nat.add_assoc];exact(HBR.out.cell (p:=⟨b,_,none⟩) hlb).trans (hc k x hx j u hu)
  have HRG:=Lib.hid hrg;have HXX:=Lib.hid hx;have i1:(0:Int)≤(k:Int):=by omega
  have i2:(k:Int)<(B.ob.length:Int):=by omega
  clear hc hrg hx;go_wp2_with (first|(refine wpList_load_mid rfl 42 _ rfl b (off+k*12) rfl (oc x) _ HRG.out Try.underlying42 rfl rfl ?_)|(refine wpList_store_o rfl x _ _ rfl rfl rfl (heap_alloc_new _ _) rfl ?_))
  intro w3 hw3;have hbx:=boxed_o hw3.out
  obtain⟨T,hT⟩:∃n,n=wr.heap.size:=⟨_,rfl⟩
  rw[←hT] at hbx ⊢
  have HZ:=Lib.hid hbx.2;replace HOW:=Lib.hid (HOW.out.below (hT▸hbx.1));replace HBR:=Lib.hid (below_via HBR.out (hT▸hbx.1));have z0:w3.cell? ⟨T,0,none⟩=some (.int .i64 x.id):=by rw[cell_of_row w3 T 0 _ 42 (0,0) HZ.out];rfl
  clear hw3 hbx hT i1 i2 hlb HRG
  obtain⟨r,hr⟩:∃r,decide (x.id∈B.s1.fld)=r:=⟨_,rfl⟩
  have HRR:=Lib.hid hr;clear hr;go_wp2_with fail
  with_reducible refine(containsI _ B.s1.fld x.id r _ (HF.out.below HBR.out) HRR.out).mono ?_
  rintro e w4 ⟨rfl,hb⟩;replace HBR:=Lib.hid (below_via HBR.out hb);replace HOW:=Lib.hid (HOW.out.below hb);replace HZ:Hid (w4.heap[T]? =some (.cells (oc x).toArray 42 (0,0))):=Lib.hid (Ro.below HZ.out hb);clear hb z0
  cases r
  case false=>
   have hno:hapK cs B 3 id 1 (B.ob.take (k+1))=hapK cs B 3 id 1 (B.ob.take k):=hapK_no HXX.out (by have h:=HRR.out;unfold abt Bd.seat;simpa using h);have HNO:=Lib.hid hno;clear hno;go_wp2_with fail
   go_roundw
   case rel=>exact⟨k+1,la,lc,by omega,by go_num,by rw[HNO.out],HBR.out,by rw[HNO.out];exact HOW.out⟩
   case measure=>simp[intOf];omega
  case true=>
   have hyes:hapK cs B 3 id 1 (B.ob.take (k+1))=hapK cs B 3 id 1 (B.ob.take k)++trO cs 3 x:=hapK_yes HXX.out (by have h:=HRR.out;unfold abt Bd.seat;simpa using h);have HYES:=Lib.hid hyes;have HLT:Hid ((trO cs 3 x).length≤2):=Lib.hid (trO_len cs 3 x);have d0:w4.cell? ⟨w.heap.size+1,0,none⟩=some (.int .i64 3):=(HH.out.below HBR.out).cell 0;clear hyes;go_wp2_with (refine wpList_load_o x _ rfl rfl HZ.out (by kernel_rfl) ?_)
   with_reducible refine(tofv v cs x 3 _ ((HCS.out.below HB.out).below HBR.out) HL.out).mono ?_
   rintro e w5 ⟨ma,mc,rfl,hm,hb⟩;replace HBR:=Lib.hid (below_via HBR.out hb);replace HOW:=Lib.hid (HOW.out.below hb);have HM:=Lib.hid (Rw.of_ow hm);clear hb hm d0 HZ;go_wp2_with (at_builtin;refine wpList_append_ow (f:=itc) (sz:=5) rfl _ _ 30 rfl w1.heap.size 45 (.agg #[.int .i64 0,.int .i64 0,.int .i64 0,.int .i64 0,.slice none 0 0]) 56 Try.underlying30 infoX rfl (by decide) _ ((hapK cs B 3 id 1 (B.ob.take k)).map nilI) rfl HOW.out itc_ok _ ((trO cs 3 x).map nilI) rfl HM.out ?c2 ?c3 ?c4 ?_)
   case c2=>simp[maxLen];have:=HLK.out;have:=HLT.out;omega
   case c3=>simp;have:=HLK.out;have:=HLT.out;omega
   case c4=>exact HBR.out.size
   intro v8 w8 ho8 hg8 hv8
   obtain⟨va,vc,rfl⟩:=ho8.form
   have hb8:Below w1.heap.size w1 w8:=HBR.out.grown hg8 HBR.out.size (fun q hq=>(HOW.out.typ q hq).1);rw[←List.map_append,←HYES.out,List.length_map] at ho8
   rw[show((hapK cs B 3 id 1 (B.ob.take k)).map nilI++(trO cs 3 x).map nilI).length=(hapK cs B 3 id 1 (B.ob.take (k+1))).length by rw[←List.map_append,←HYES.out,List.length_map]];have HO8:=Lib.hid ho8;have HB8:=Lib.hid hb8;clear ho8 hg8 hv8 hb8;go_wp2_with fail
   go_roundw
   case rel=>exact⟨k+1,va,vc,by omega,by go_num,rfl,HB8.out,HO8.out⟩
   case measure=>simp[intOf];omega
theorem hof(v:Value)(cs:List (Cd×List (Int×Nat)))(s:Bs)(B:Bd)(wh id pl:Int)(w:World)(hc:CsR w v cs)(hl:Lt cs)(h:BdR w s B)(hi:B.I)(hsm:B.Sm)(hid:Plain.I id)(hv:VB B):Calls Try.prog 66 #[v,bv s B,.agg #[.int .i64 wh,.int .i64 id,.int .i64 pl]] w (OfA w (hapK cs B wh id pl B.ob)):=by
 by_cases h1:wh=1∨wh=2
 ·exact hof_one v cs s B wh id pl w hc hl h hi hsm hid hv h1
 by_cases h3:wh=3∧(pl=0∨pl=1)
 ·obtain⟨rfl,rfl|rfl⟩:=h3
  ·exact hof_up0 v cs s B id w hc hl h hi hsm hv
  ·exact hof_up1 v cs s B id w hc hl h hi hsm hv
 ·exact hof_no v cs s B wh id pl w hc hl h hi hsm hv (by omega) (by omega) (by omega)
end Go.Proofs.Ytpbepnpnpopmfaa
