/- The order of the queue, by the code. -/
import Derived.Test.YtgkgbpapfjjkcaaTDx
import Derived.Deep.DeepCutAuto
import Derived.LoopTactic
import Derived.Deep.MidRow
import Derived.Great.BuildSlice
namespace Go.Proofs.Ytgkgbpapfjjkcaa
open Go.RowKit Plain
set_option linter.unusedVariables false
set_option linter.unusedSimpArgs false

theorem rg19_5{P:Program}{B n:Nat}{w0:World}{L:List (Nat×Nat×Value)}{E F:World→Prop}{id:Nat}{Q:Exit→Act→World→Prop}{a:Act}{w:World}{A:Array Oper}{o0 o1 o2 o3 o4:Oper}(hm:P.follows .mixedOrders=true)(hA:A=[o0,o1,o2,o3,o4].toArray)(hB:regOk A [2] [0,4] (.fs [0] (.rs [2] (.alt 1 (.alt 3 (.fs [4] .done) .stop) .stop)))=true)(c:RC B w0 n L E F w)
  (h:∀wk,Kept B w0 n L wk→E wk→F wk→wpQuiet P A (fun _=>True) (fun a0=>wpQuiet P A (fun w' =>∃s:KX B w0 n L E,w' =s.val) (fun a1=>((∀K2:Act→World→Prop,(∀a2 w2,((∀K3:Act→World→Prop,(∀a3 w3,wpQuiet P A (fun _=>True) (fun a4=>Q .normal a4 w3) [o4] a3→K3 a3 w3)→wpList P A (fun e a3 w3=>e= .normal∧(∃s:KX B w0 n L E,w3=s.val)∧K3 a3 w3) [o3] a2 w2)∧True)→K2 a2 w2)→wpList P A (fun e a2 w2=>e= .normal∧(∃s:KX B w0 n L E,w2=s.val)∧K2 a2 w2) [o1] a1 wk)∧True)) [o2] a0) [o0] a):(Code.region id A true).wp P Q a w:=by
 subst hA;exact wp_reg _ _ _ hm hB c (fun wk k e f=>have g:=h wk k e f;Scr.of_fs _ _ rfl g fun _ g=>Scr.of_rs _ _ rfl g fun _ g=>(Scr.of_alt rfl (g.1 _ fun _ _ g=>g) (fun _ _ g=>(Scr.of_alt rfl (g.1 _ fun _ _ g=>g) (fun _ _ g=>Scr.of_fs _ _ rfl g fun _ g=>g) trivial)) trivial))
theorem wpList_store_1h{ops:Array Oper}{rest:List Oper}{op:Oper}{a:Act}{w:World}{Q:Exit→Act→World→Prop}(hgd:op.guard=none){P:Nat}(T:TypeId)(u:Value)(x y:Operand)(ho:op.op= .store T x y)(hx:a.eval x= .pointer (some ⟨P,0,none⟩))(hy:a.eval y=u){old:Value}(hg:Ro w P #[old] T)(hi:(Try.prog.info? T).map (·.size)=some 1)(h1:u.oneCell' =true)
  (hK:∀w',Hid (w' =w.setRow P #[u])→wpList Try.prog ops Q rest (a.put op.dst undef) w'):wpList Try.prog ops Q (op::rest) a w:=by
 subst hy;exact wpList_store_one hgd T x y ho P hx h1 T old hg hi (hK _ (Lib.hid rfl))
/-- the order of the queue: first the items of the active player -/
def Plain.ordL(B:Bd):List It:=B.qu.filter (fun x=>x.pl==B.ac)++B.qu.filter (fun x=> !(x.pl==B.ac))
theorem ordL_len(B:Bd):(ordL B).length=B.qu.length:=by
 have h2:∀l:List It,(l.filter (fun x=>x.pl==B.ac)).length+(l.filter (fun x=> !(x.pl==B.ac))).length=l.length:=by
  intro l
  induction l with
  |nil=>rfl
  |cons a l ih=>cases h:(a.pl==B.ac)<;>simp[List.filter_cons,h]<;>omega
 unfold ordL;rw[List.length_append,h2]
theorem ordL_mem{B:Bd}{x:It}(h:x∈ordL B):x∈B.qu:=by
 unfold ordL at h
 rcases List.mem_append.1 h with h|h
 ·exact(List.mem_filter.1 h).1
 ·exact(List.mem_filter.1 h).1
theorem cfO1(args:Array Value)(w:World):(callFunc 44 args).run Try.prog w= .ok (.enter 44 args) w:=by kernel_rfl
theorem cfO2(args:Array Value)(w:World):(callFunc 47 args).run Try.prog w= .ok (.enter 47 args) w:=by kernel_rfl
set_option maxRecDepth 100000 in
set_option maxHeartbeats 4000000 in
theorem ord1(x:It)(sa:Option Addr)(sn sc:Nat)(P:Nat)(s:Bs)(B:Bd)(w:World)(hx:Bx w P s B):Calls Try.prog 44 #[.agg #[.int .i64 x.pl,.int .i64 x.id,.int .i64 x.cd,.int .i64 x.tr,.slice sa sn sc],.pointer (some ⟨P,0,none⟩)] w fun e w' =>e= .returned (.bool (x.pl==B.ac))∧Below w.heap.size w w':=by
 have HX:=Lib.hid hx;clear hx;go_enter Try.func44,Try.ntmps44
 go_upto_region 1 with fail
 obtain⟨wz,hwz⟩:∃W,W=w.alloc (.cells #[.int .i64 x.pl,.int .i64 x.id,.int .i64 x.cd,.int .i64 x.tr,.slice sa sn sc] 60):=⟨_,rfl⟩
 change Code.wp Try.prog _ _ _ (w.alloc (.cells #[.int .i64 x.pl,.int .i64 x.id,.int .i64 x.cd,.int .i64 x.tr,.slice sa sn sc] 60));have hb:Below w.heap.size w wz:=by rw[hwz];exact(Below.refl _ _).alloc (Nat.le_refl _) _
 have d0:wz.cell? ⟨w.heap.size,0,none⟩=some (.int .i64 x.pl):=by rw[hwz];exact(Ro.new _ _ _).cell 0
 have d1:wz.cell? ⟨P,34,none⟩=some (.int .i64 B.ac):=(HX.out.below hb).cell 34;have HB:=Lib.hid hb;rw[←hwz];clear hwz hb;go_wp2_with fail
 go_returns
 exact⟨rfl,HB.out⟩
set_option maxRecDepth 100000 in
set_option maxHeartbeats 4000000 in
theorem ord2(x:It)(sa:Option Addr)(sn sc:Nat)(G P:Nat)(s:Bs)(B:Bd)(w:World)(hx:Bx w P s B)(hg:Ro w G #[.func (.func 44) #[] #[.pointer (some ⟨P,0,none⟩)]] 94):Calls Try.prog 47 #[.agg #[.int .i64 x.pl,.int .i64 x.id,.int .i64 x.cd,.int .i64 x.tr,.slice sa sn sc],.pointer (some ⟨G,0,none⟩)] w fun e w' =>e= .returned (.bool (!(x.pl==B.ac)))∧Below w.heap.size w w':=by
 have HX:=Lib.hid hx;have HG:=Lib.hid hg
 obtain⟨r,hr0⟩:∃r,(x.pl==B.ac)=r:=⟨_,rfl⟩
 rw[hr0];have hr:=Lib.hid hr0;clear hx hg hr0;go_enter Try.func47,Try.ntmps47
 go_upto_region 1 with fail
 obtain⟨wz,hwz⟩:∃W,W=w.alloc (.cells #[.int .i64 x.pl,.int .i64 x.id,.int .i64 x.cd,.int .i64 x.tr,.slice sa sn sc] 60):=⟨_,rfl⟩
 change Code.wp Try.prog _ _ _ (w.alloc (.cells #[.int .i64 x.pl,.int .i64 x.id,.int .i64 x.cd,.int .i64 x.tr,.slice sa sn sc] 60));have hb:Below w.heap.size w wz:=by rw[hwz];exact(Below.refl _ _).alloc (Nat.le_refl _) _
 have HZ:Hid (Ro wz w.heap.size #[.int .i64 x.pl,.int .i64 x.id,.int .i64 x.cd,.int .i64 x.tr,.slice sa sn sc] 60):=Lib.hid (by rw[hwz];exact Ro.new _ _ _);have d1:wz.cell? ⟨G,0,none⟩=some (.func (.func 44) #[] #[.pointer (some ⟨P,0,none⟩)]):=(HG.out.below hb).cell 0;have HB:=Lib.hid hb;have HXW:=Lib.hid (HX.out.below hb);rw[←hwz];clear hwz hb;have HRR:Hid (Calls Try.prog 44 #[.agg #[.int .i64 x.pl,.int .i64 x.id,.int .i64 x.cd,.int .i64 x.tr,.slice sa sn sc],.pointer (some ⟨P,0,none⟩)] wz fun e w' =>e= .returned (.bool r)∧Below wz.heap.size wz w'):=Lib.hid (by rw[←hr.out];exact ord1 x sa sn sc P s B wz HXW.out);go_wp2_with (refine wpList_load_ro rfl 60 _ _ rfl rfl HZ.out Try.underlying60 rfl rfl ?_)
 with_reducible refine HRR.out.mono ?_
 rintro e w2 ⟨rfl,hb⟩;replace HB:=Lib.hid (below_via HB.out hb);clear hb d1;go_wp2_with fail
 go_returns
 exact⟨rfl,HB.out⟩
/-- items that can be read are returned -/
def OrA(w:World)(l:List It)(e:Ending)(w':World):Prop:=∃a c,e= .returned (.slice a l.length c)∧ItR w' (.slice a l.length c) l∧Below w.heap.size w w'
theorem qu_tg{B:Bd}(h:VB B):∀x∈B.qu,x.tg=[]:=fun x hx=>by
 have h1:=List.all_eq_true.1 h.its.2 x hx;unfold itB itN at h1
 have h2:=of_decide_eq_true (Bool.and_eq_true_iff.1 h1).1;exact List.eq_nil_of_length_eq_zero (h2.2.2.2.2.2.1 (h2.2.2.2.2.2.2 rfl))
theorem Rw.nilw{α:Type}{f:α→List Value}{sz:Nat}{w w':World}{v:Value}(h:Rw f sz w v []):Rw f sz w' v []:=by
 rcases h with h|⟨h0,_⟩
 ·exact .inl h
 ·exact absurd rfl h0
theorem map_filter{l:List (It×Sl)}{p:It→Bool}:(l.filter (fun y=>p y.1)).map Prod.fst=(l.map Prod.fst).filter p:=by
 induction l with
 |nil=>rfl
 |cons a l ih=>
  rw[List.filter_cons,List.map_cons,List.filter_cons]
  by_cases h:p a.1=true
  ·rw[if_pos h,if_pos h,List.map_cons,ih]
  ·rw[if_neg h,if_neg h,ih]
set_option maxRecDepth 100000 in
set_option maxHeartbeats 4000000 in
theorem order_bad(s:Bs)(B:Bd)(w:World)(h:BdR w s B)(hi:B.I)(hsm:B.Sm)(hv:¬VB B):Calls Try.prog 19 #[bv s B] w (OrA w []):=by
 have HR:=Lib.hid h;have HI:=Lib.hid hi;have HSM:=Lib.hid hsm;have HV:=Lib.hid hv;clear h hi hsm hv;go_enter Try.func19,Try.ntmps19
 go_upto_region 1 with fail
 change Code.wp Try.prog _ _ _ (w.alloc (.cells (bcells s B) 34))
 obtain⟨wz,hwz⟩:∃W,W=w.alloc (.cells (bcells s B) 34):=⟨_,rfl⟩
 rw[←hwz];have HB:Hid (Below w.heap.size w wz):=Lib.hid (by rw[hwz];exact(Below.refl _ _).alloc (Nat.le_refl _) _);have HX:Hid (Bx wz w.heap.size s B):=Lib.hid (by rw[hwz];exact heap_alloc_new _ _);clear hwz;go_wp2_with (refine wpList_load_bx _ rfl rfl HX.out (by kernel_rfl) ?_)
 with_reducible refine(bvalid s B _ (HR.out.below HB.out) HI.out HSM.out).mono ?_
 rintro e w1 ⟨⟨r,rfl,hr⟩,hb⟩;replace HB:=Lib.hid (below_via HB.out hb);replace HX:=Lib.hid (HX.out.below hb);have HXL:Hid (w.heap.size<w1.heap.size):=Lib.hid HX.out.lt;obtain rfl:r=false:=by cases r with|false=>rfl|true=>exact absurd (hr.1 rfl) HV.out
 clear hb hr;go_wp2_with fail
 go_returns
 exact⟨none,0,rfl,⟨[],rfl,Rw.nil _,by simp⟩,HB.out⟩
theorem Ow.cap{α:Type}{f:α→List Value}{sz:Nat}{e:TypeId}{w:World}{base:Nat}{a:Option Addr}{n c:Nat}{l:List α}(h:Ow f sz e w base (.slice a n c) l):n≤c∧(a=none→c=0):=by
 obtain⟨_,h1⟩:=h
 rcases h1 with⟨h1,_⟩|⟨g',c',cur,h1,_,_,h2,_⟩
 ·simp only[Value.slice.injEq] at h1
  exact⟨by omega,fun _=>h1.2.2⟩
 ·simp only[Value.slice.injEq] at h1
  exact⟨by omega,fun e=>by rw[h1.1] at e;cases e⟩
/-- items that can be read are returned, and they fit -/
def OrC(w:World)(l:List It)(e:Ending)(w':World):Prop:=∃a c,e= .returned (.slice a l.length c)∧ItR w' (.slice a l.length c) l∧(l.length≤c∧(a=none→c=0))∧Below w.heap.size w w'
set_option maxRecDepth 100000 in
set_option maxHeartbeats 4000000 in
theorem order_okC(s:Bs)(B:Bd)(w:World)(h:BdR w s B)(hi:B.I)(hsm:B.Sm)(htl:B.Tl)(hv:VB B):Calls Try.prog 19 #[bv s B] w (OrC w (ordL B)):=by
 have HR:=Lib.hid h;have HI:=Lib.hid hi;have HSM:=Lib.hid hsm;have HTL:=Lib.hid htl;have HV:=Lib.hid hv;clear h hi hsm hv htl;go_enter Try.func19,Try.ntmps19
 go_upto_region 1 with fail
 change Code.wp Try.prog _ _ _ (w.alloc (.cells (bcells s B) 34))
 obtain⟨wz,hwz⟩:∃W,W=w.alloc (.cells (bcells s B) 34):=⟨_,rfl⟩
 rw[←hwz];have HB:Hid (Below w.heap.size w wz):=Lib.hid (by rw[hwz];exact(Below.refl _ _).alloc (Nat.le_refl _) _);have HX:Hid (Bx wz w.heap.size s B):=Lib.hid (by rw[hwz];exact heap_alloc_new _ _);clear hwz;go_wp2_with (refine wpList_load_bx _ rfl rfl HX.out (by kernel_rfl) ?_)
 with_reducible refine(bvalid s B _ (HR.out.below HB.out) HI.out HSM.out).mono ?_
 rintro e w1 ⟨⟨r,rfl,hr⟩,hb⟩;replace HB:=Lib.hid (below_via HB.out hb);replace HX:=Lib.hid (HX.out.below hb);have HXL:Hid (w.heap.size<w1.heap.size):=Lib.hid HX.out.lt;obtain rfl:r=true:=hr.2 HV.out;clear hb hr;have hqn:B.qu.length≤200:=by have h:=HV.out.num;unfold vNum at h;exact h.2.2.2.2.2.2.2
 have HQN:=Lib.hid hqn;clear hqn;go_wp2_with (first|(refine wpList_store_1h rfl 94 (.func (.func 44) #[] #[.pointer (some ⟨w.heap.size,0,none⟩)]) _ _ rfl rfl rfl (Ro.new _ _ _) rfl rfl ?_))
 intro w2 hw2;have hbx:=boxed_r hw2.out
 obtain⟨G,hG⟩:∃n,n=w1.heap.size:=⟨_,rfl⟩
 rw[←hG] at hbx ⊢
 have HG:=Lib.hid hbx.2;have hb:=hbx.1;rw[hG] at hb
 replace HB:=Lib.hid (below_via HB.out hb);replace HX:=Lib.hid (HX.out.below hb);have HGL:Hid (G<w2.heap.size):=Lib.hid HG.out.lt;have HCW:Hid (w.heap.size≤w2.heap.size):=Lib.hid HB.out.size;have HTLZ:=trivial;have HGB:Hid (w.heap.size<w2.heap.size):=Lib.hid HX.out.lt;clear hw2 hbx hG hb;go_wp2_with (refine wpList_load_bx _ rfl rfl HX.out (by kernel_rfl) ?_)
 with_reducible refine(bcopy s B _ (HR.out.below HB.out) HSM.out HTL.out).mono ?_
 rintro e w3 ⟨sc,rfl,ho,hb⟩;replace HB:=Lib.hid (below_via HB.out hb);replace HX:=Lib.hid (HX.out.below hb);replace HG:=Lib.hid (HG.out.below hb)
 obtain⟨l',hl',hox,hot⟩:=ho.qu
 have HL':=Lib.hid hl';have HLN:Hid (l'.length=B.qu.length):=Lib.hid (by rw[←hl',List.length_map])
 obtain⟨qa,qc,hqv⟩:=hox.1.form
 have hfq:∀w,(Instr.field 34 (bv sc B) 3).run Try.prog w= .ok (.slice qa l'.length qc) w:=fun w=>by
  have e:(Instr.field 34 (bv sc B) 3).run Try.prog w= .ok sc.qu.v w:=by kernel_rfl
  rw[e,hqv]
 rw[hqv] at hox
 have HOX:=Lib.hid hox;have HOT:=Lib.hid hot;have HC2:Hid (w2.heap.size≤w3.heap.size):=Lib.hid hb.size;clear ho hb hl' hox hot hqv
 go_upto_region 5 with fail
 clear hfq;have g0:=HG.out.cell 0;have lG:G<w3.heap.size:=HG.out.lt;simp only[List.getElem?_toArray,List.getElem?_cons_zero] at g0
 refine rg19_5 (w0:=w3) (B:=w3.heap.size) (n:=w3.heap.size) (L:=[]) (by kernel_rfl) rfl (by kernel_rfl) (.t ⟨by go_grown,by go_size,(by simp[go_sem]<;>omega)⟩) (fun w91 K_w91 E_w91 F_w91=> ?_);have _ne:Nonempty (KX (w3.heap.size) w3 (w3.heap.size) [] (fun _=>True)):=⟨⟨_,K_w91,E_w91⟩⟩
 repeat (go_big_quiet_step (fail))
 refine wpQuiet_nil ?_;have rg:=rck _ne g0 lG
 repeat (go_big_quiet_step (fail))
 refine wpQuiet_nil ?_;have KH_w91:=Lib.hid K_w91;have hw_w91:=K_w91.below;have hz_w91:=K_w91.size;clear K_w91;clear E_w91 F_w91
 refine⟨fun K hK0=> ?_,trivial⟩
 have hK:=Lib.hid hK0;clear hK0;have HBR:=Lib.hid KH_w91.out.below;have HC4:Hid (w3.heap.size≤w91.heap.size):=Lib.hid HBR.out.size;go_wp2_with fail
 with_reducible refine(cloneX (.slice qa l'.length qc) _ ((HOX.out.below HBR.out).rw itc_len) (by have:=HLN.out;have:=HQN.out;omega)).mono ?_
 rintro e w4 ⟨oa,oc',rfl,hoc,hb4⟩;replace HBR:=Lib.hid (below_via HBR.out hb4);have HOC:=Lib.hid hoc;clear hoc hb4;go_wp2_with fail
 first|refine⟨rfl,?u,hK.out _ _ ?_⟩|refine⟨?u,hK.out _ _ ?_⟩
 case u=>exact⟨⟨_,(⟨HBR.out,HBR.out.size,by simp⟩:Kept w3.heap.size w3 w3.heap.size [] w4),trivial⟩,rfl⟩
 clear hK K
 refine⟨fun K hK0=> ?_,trivial⟩
 have hK:=Lib.hid hK0;clear hK0;go_wp2_with fail
 with_reducible refine(delX 44 cfO1 (.pointer (some ⟨w.heap.size,0,none⟩)) (fun y=>y.1.pl==B.ac) oa oc' l' _ _ _ HOC.out (by have:=HLN.out;have:=HQN.out;omega) (fun W y hy hg=>by
  obtain⟨⟨pl,id,cd,tr,tg⟩,⟨ta,tn,tc'⟩⟩:=y
  refine ord1 ⟨pl,id,cd,tr,tg⟩ ta tn tc' w.heap.size s B W ?_;have hx4:=HX.out.below HBR.out;exact hx4.grown hg (fun e=>by have h1:=(HOC.out.blk e).1;have h2:=HX.out.lt;have h3:=HC4.out;omega))).mono ?_
 rintro e w5 ⟨rfl,hod,hg5⟩;replace HBR:Hid (Below w3.heap.size w3 w5):=Lib.hid (HBR.out.grown hg5 HBR.out.size (fun q hq=>by have h1:=(HOC.out.blk hq).1;have h3:=HC4.out;omega));have HOD:=Lib.hid hod;clear hod hg5;go_wp2_with fail
 first|refine⟨rfl,?u,hK.out _ _ ?_⟩|refine⟨?u,hK.out _ _ ?_⟩
 case u=>exact⟨⟨_,(⟨HBR.out,HBR.out.size,by simp⟩:Kept w3.heap.size w3 w3.heap.size [] w5),trivial⟩,rfl⟩
 clear hK K
 repeat (go_big_quiet_step (fail))
 refine wpQuiet_nil ?_;clear rg;clear _ne;clear g0 lG;have HXL2:Hid (w.heap.size<w3.heap.size):=Lib.hid HX.out.lt;replace HB:=Lib.hid (below_via HB.out HBR.out);replace HX:=Lib.hid (HX.out.below HBR.out);replace HG:=Lib.hid (HG.out.below HBR.out);replace HOX:=Lib.hid (HOX.out.below HBR.out)
 have HDEL:=Lib.hid (delX 47 cfO2 (.pointer (some ⟨G,0,none⟩)) (fun y=> !(y.1.pl==B.ac)) qa qc l' w2.heap.size w3.heap.size w5 HOX.out (by have:=HLN.out;have:=HQN.out;omega) (fun W y hy hg=>by
  obtain⟨⟨pl,id,cd,tr,tg⟩,⟨ta,tn,tc'⟩⟩:=y
  refine ord2 ⟨pl,id,cd,tr,tg⟩ ta tn tc' G w.heap.size s B W ?_ ?_
  ·exact HX.out.grown hg (fun e=>by have h1:=(HOX.out.blk e).1;have h2:=HXL.out;have h3:=HGB.out;have h4:=HGL.out;omega)
  ·exact HG.out.grown hg (fun e=>by have h1:=(HOX.out.blk e).1;have h4:=HGL.out;omega)))
 clear HTLZ;go_wp2_with fail
 with_reducible refine HDEL.out.mono ?_
 rintro e w6 ⟨rfl,ho6,hg6⟩;have hb6:Below w.heap.size w w6:=HB.out.grown hg6 HB.out.size (fun q hq=>by have h1:=(HOX.out.blk hq).1;have h2:=HCW.out;omega)
 have hd6:Rw itc 5 w6 (.slice oa (l'.filter (fun y=> !(y.1.pl==B.ac))).length oc') (l'.filter (fun y=> !(y.1.pl==B.ac))):=by
  exact Ox.rw (HOD.out.keep (fun k a b hb=>hg6.block k (HOD.out.blk hb).2.2 (fun e=>by have h1:=(HOX.out.blk e.symm).2.1;have h2:=HC4.out;omega))) itc_len
 have hw6:w2.heap.size≤w6.heap.size:=by have h1:=hg6.size;have h2:=HC2.out;have h3:=HBR.out.size;omega
 simp only[Bool.not_not] at ho6 ⊢
 have HO6:=Lib.hid ho6;have HD6:=Lib.hid hd6;have HB6:=Lib.hid hb6;have HW6:=Lib.hid hw6;have HFL1:Hid ((l'.filter (fun y=>y.1.pl==B.ac)).length≤200):=Lib.hid (by have h1:=List.length_filter_le (fun y=>y.1.pl==B.ac) l';have:=HLN.out;have:=HQN.out;omega);have HFL2:Hid ((l'.filter (fun y=> !(y.1.pl==B.ac))).length≤200):=Lib.hid (by have h1:=List.length_filter_le (fun y=> !(y.1.pl==B.ac)) l';have:=HLN.out;have:=HQN.out;omega);clear ho6 hg6 hb6 hd6 hw6 HDEL;go_wp2_with (at_builtin;refine wpList_append_ow (f:=itc) (sz:=5) rfl _ _ 30 rfl w2.heap.size 60 (.agg #[.int .i64 0,.int .i64 0,.int .i64 0,.int .i64 0,.slice none 0 0]) 56 Try.underlying30 infoX rfl (by decide) _ (l'.filter (fun y=>y.1.pl==B.ac)) rfl HO6.out.1 itc_ok _ (l'.filter (fun y=> !(y.1.pl==B.ac))) rfl HD6.out ?c2 ?c3 ?c4 ?_)
 case c2=>have h1:=HFL1.out;have h2:=HFL2.out;simp only[maxLen];omega
 case c3=>have h1:=HFL1.out;have h2:=HFL2.out;omega
 case c4=>exact HW6.out
 intro v8 w8 ho8 hg8 hv8
 obtain⟨va,vc,rfl⟩:=ho8.form
 have hb8:Below w.heap.size w w8:=HB6.out.grown hg8 HB6.out.size (fun q hq=>by have h1:=(HO6.out.blk hq).1;have h2:=HCW.out;omega);have HO8:=Lib.hid ho8;have HB8:=Lib.hid hb8;clear ho8 hg8 hv8 hb8;go_wp2_with fail
 go_returns
 have hl8:(l'.filter (fun y=>y.1.pl==B.ac)++l'.filter (fun y=> !(y.1.pl==B.ac))).map Prod.fst=ordL B:=by
  rw[List.map_append,map_filter (p:=fun x=>x.pl==B.ac),map_filter (p:=fun x=> !(x.pl==B.ac)),HL'.out]
  rfl
 have hl9:(ordL B).length=(l'.filter (fun y=>y.1.pl==B.ac)++l'.filter (fun y=> !(y.1.pl==B.ac))).length:=by rw[←hl8,List.length_map]
 refine⟨va,vc,by rw[hl9];rfl,⟨_,hl8,by rw[hl9];exact HO8.out.rw itc_len,fun x hx=> ?_⟩,by rw[hl9];exact Ow.cap HO8.out,HB8.out⟩
 have hxl:x∈l':=by
  rcases List.mem_append.1 hx with h|h
  ·exact(List.mem_filter.1 h).1
  ·exact(List.mem_filter.1 h).1
 have h0:x.1.tg=[]:=qu_tg HV.out x.1 (by rw[←HL'.out];exact List.mem_map.2 ⟨x,hxl,rfl⟩);have h1:=(HOT.out x hxl).rw tc_len;rw[h0] at h1 ⊢
 exact h1.nilw
theorem order_ok(s:Bs)(B:Bd)(w:World)(h:BdR w s B)(hi:B.I)(hsm:B.Sm)(htl:B.Tl)(hv:VB B):Calls Try.prog 19 #[bv s B] w (OrA w (ordL B)):=(order_okC s B w h hi hsm htl hv).mono (fun e w' h=>by
 obtain⟨a,c,h1,h2,_,h3⟩:=h
 exact⟨a,c,h1,h2,h3⟩)
end Go.Proofs.Ytgkgbpapfjjkcaa
