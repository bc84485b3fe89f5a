/- An object dies, by the law. An item comes onto the stack. -/
import Derived.Test.YtgkgbpapfjjkcaaBCc
import Derived.Deep.DeepCutAuto
import Derived.LoopTactic
import Derived.Test.YtgkgbpapfjjkcaaTWo
import Derived.Test.YtgkgbpapfjjkcaaTOr
import Derived.Deep.MidRow
namespace Go.Proofs.Ytgkgbpapfjjkcaa
open Go.RowKit Plain
set_option linter.unusedVariables false
set_option linter.unusedSimpArgs false

set_option maxRecDepth 100000 in
set_option maxHeartbeats 4000000 in
theorem ldies(id:Int)(w:World):Calls Try.prog 23 #[.int .i64 id] w fun e w' =>e= .returned (.agg #[.int .i64 1,.int .i64 id,.int .i64 0])∧Below w.heap.size w w':=by
 go_enter Try.func23,Try.ntmps23;go_wp2_with fail
 go_returns
 exact⟨rfl,by go_grown⟩
set_option maxRecDepth 100000 in
set_option maxHeartbeats 4000000 in
theorem pwithin(n a b:Int)(w:World):Calls Try.prog 74 #[.int .i64 n,.int .i64 a,.int .i64 b] w fun e w' =>e= .returned (.bool (decide (a≤n∧n≤b)))∧Below w.heap.size w w':=by
 by_cases h1:a≤n
 ·by_cases h2:n≤b
  ·rw[show decide (a≤n∧n≤b)=true from decide_eq_true ⟨h1,h2⟩]
   have t1:decide (n≥a)=true:=decide_eq_true h1;go_enter Try.func74,Try.ntmps74;go_wp2_with fail
   go_returns
   exact⟨rfl,by go_grown⟩
  ·rw[show decide (a≤n∧n≤b)=false from decide_eq_false (fun h=>h2 h.2)]
   have t2:decide (n≤b)=false:=decide_eq_false h2;have t1:decide (n≥a)=true:=decide_eq_true h1;go_enter Try.func74,Try.ntmps74;go_wp2_with fail
   go_returns
   exact⟨rfl,by go_grown⟩
 ·rw[show decide (a≤n∧n≤b)=false from decide_eq_false (fun h=>h1 h.1)]
  have t1:decide (n≥a)=false:=decide_eq_false h1;go_enter Try.func74,Try.ntmps74;go_wp2_with fail
  go_returns
  exact⟨rfl,by go_grown⟩
end Go.Proofs.Ytgkgbpapfjjkcaa
namespace Go.Proofs.Ytgkgbpapfjjkcaa
open Go.RowKit Plain
set_option linter.unusedVariables false
set_option linter.unusedSimpArgs false

theorem pwithinc(n a b:Int)(r:Bool)(w:World)(h:decide (a≤n∧n≤b)=r):Calls Try.prog 74 #[.int .i64 n,.int .i64 a,.int .i64 b] w fun e w' =>e= .returned (.bool r)∧Below w.heap.size w w':=by
 subst h;exact pwithin n a b w
/-- what a queue may hold -/
def itQ(x:It):Prop:=(0≤x.pl∧x.pl≤1)∧(1≤x.id∧x.id≤500)∧(0≤x.cd∧x.cd≤399)∧(0≤x.tr∧x.tr≤1)∧x.tg=[]
theorem itQ_of{x:It}(h:itB x true=true):itQ x:=by
 unfold itB itN at h
 have h2:=of_decide_eq_true (Bool.and_eq_true_iff.1 h).1
 exact⟨h2.1,h2.2.1,h2.2.2.1,⟨h2.2.2.2.2.2.2 rfl,h2.2.2.2.1.2⟩,List.eq_nil_of_length_eq_zero (h2.2.2.2.2.2.1 (h2.2.2.2.2.2.2 rfl))⟩
theorem itQ_B{x:It}(h:itQ x)(q:Bool):itB x q=true:=by
 unfold itB itN;rw[h.2.2.2.2];have h1:=h.1;have h2:=h.2.1;have h3:=h.2.2.1;have h4:=h.2.2.2.1
 simp
 omega
/-- an item on the stack -/
def Plain.puB(B:Bd)(x:It):Bd:={B with st:=B.st++[x]}
theorem VB.pu{B:Bd}{x:It}(h:VB B)(hx:itQ x)(hl:B.st.length<200):VB (puB B x):=by
 have hc:cst (B.st++[x])=cst B.st:=by
  unfold cst;rw[List.filter_append]
  have:=hx.2.2.2.1.1
  simp
  omega
 have hp:(puB B x).prs=B.prs:=by unfold Bd.prs puB;simp only[hc]
 refine⟨?_,h.se0,h.se1,⟨?_,h.its.2⟩,⟨by rw[hp];exact h.plc.nd,fun i o ho=> ?_,by rw[hp];exact h.plc.len⟩,⟨h.fgt.nd,h.fgt.own,h.fgt.na,h.fgt.nb,h.fgt.bl⟩⟩
 ·have hn:=h.num
  unfold vNum at hn ⊢
  refine⟨hn.1,hn.2.1,hn.2.2.1,hn.2.2.2.1,hn.2.2.2.2.1,hn.2.2.2.2.2.1,?_,hn.2.2.2.2.2.2.2⟩
  show(B.st++[x]).length≤200
  simp
  omega
 ·show(B.st++[x]).all _=true
  rw[List.all_append,h.its.1];simp[itQ_B hx]
 ·have h1:=h.plc.ob i o ho
  refine⟨h1.1,h1.2.1,by rw[hp];exact h1.2.2.1,fun y hy=>h1.2.2.2 y ?_⟩
  have:y∈cst (B.st++[x]):=hy
  rwa [hc] at this
set_option maxRecDepth 100000 in
set_option maxHeartbeats 4000000 in
theorem push_full(s:Bs)(B:Bd)(x:It)(ta:Option Addr)(tc:Nat)(w:World)(h:BdR w s B)(hi:B.I)(hsm:B.Sm)(hv:VB B)(hx:itQ x)(hl:200≤B.st.length):Calls Try.prog 48 #[bv s B,.agg #[.int .i64 x.pl,.int .i64 x.id,.int .i64 x.cd,.int .i64 x.tr,.slice ta 0 tc]] w (BrA w zeroB (.int .i64 7)):=by
 have HR:=Lib.hid h;have HI:=Lib.hid hi;have HSM:=Lib.hid hsm;have HV:=Lib.hid hv;have HQ:=Lib.hid hx
 obtain⟨_,a29,c29,e29,_⟩:∃l' a c,s.st.v= .slice a B.st.length c∧Rw itc 5 w s.st.v l':=by
  obtain⟨l',hl,hr,_⟩:=h.st
  obtain⟨_,a,c,e,_⟩:=hr.form
  exact⟨l',a,c,by rw[e,←hl,List.length_map],hr⟩
 have q1:decide (0≤x.pl∧x.pl≤1)=true:=decide_eq_true hx.1;have q2:decide (1≤x.id∧x.id≤500)=true:=decide_eq_true hx.2.1;have q3:decide (0≤x.cd∧x.cd≤399)=true:=decide_eq_true hx.2.2.1;have q4:decide (0≤x.tr∧x.tr≤1)=true:=decide_eq_true hx.2.2.2.1;have Q1:=Lib.hid q1;have Q2:=Lib.hid q2;have Q3:=Lib.hid q3;have Q4:=Lib.hid q4;have E29:=Lib.hid e29;clear h hi hsm hv hx q1 q2 q3 q4 e29;go_enter Try.func48,Try.ntmps48
 go_upto_region 1 with fail
 change Code.wp Try.prog _ _ _ (((w.alloc (.cells (bcells s B) 34)).alloc (.cells #[.int .i64 x.pl,.int .i64 x.id,.int .i64 x.cd,.int .i64 x.tr,.slice ta 0 tc] 60)).alloc (.cells (bcells nilS zeroB) 34))
 obtain⟨wz,hwz⟩:∃W,W=(((w.alloc (.cells (bcells s B) 34)).alloc (.cells #[.int .i64 x.pl,.int .i64 x.id,.int .i64 x.cd,.int .i64 x.tr,.slice ta 0 tc] 60)).alloc (.cells (bcells nilS zeroB) 34)):=⟨_,rfl⟩
 rw[←hwz];have b0:Below w.heap.size w (w.alloc (.cells (bcells s B) 34)):=by exact(Below.refl _ _).alloc (Nat.le_refl _) _
 have b1:Below (w.alloc (.cells (bcells s B) 34)).heap.size (w.alloc (.cells (bcells s B) 34)) ((w.alloc (.cells (bcells s B) 34)).alloc (.cells #[.int .i64 x.pl,.int .i64 x.id,.int .i64 x.cd,.int .i64 x.tr,.slice ta 0 tc] 60)):=by exact(Below.refl _ _).alloc (Nat.le_refl _) _
 have b2:Below ((w.alloc (.cells (bcells s B) 34)).alloc (.cells #[.int .i64 x.pl,.int .i64 x.id,.int .i64 x.cd,.int .i64 x.tr,.slice ta 0 tc] 60)).heap.size ((w.alloc (.cells (bcells s B) 34)).alloc (.cells #[.int .i64 x.pl,.int .i64 x.id,.int .i64 x.cd,.int .i64 x.tr,.slice ta 0 tc] 60)) wz:=by rw[hwz];exact(Below.refl _ _).alloc (Nat.le_refl _) _
 have HB:Hid (Below w.heap.size w wz):=Lib.hid (below_via (below_via b0 b1) b2);have HXb:Hid (Bx wz (w.heap.size) s B):=Lib.hid (((Ro.new w (bcells s B) 34).below b1:Ro _ _ _ _).below b2);have HXx:Hid (Ro wz (w.heap.size+1) #[.int .i64 x.pl,.int .i64 x.id,.int .i64 x.cd,.int .i64 x.tr,.slice ta 0 tc] 60):=Lib.hid (by rw[show w.heap.size+1=(w.alloc (.cells (bcells s B) 34)).heap.size by simp];exact((Ro.new (w.alloc (.cells (bcells s B) 34)) #[.int .i64 x.pl,.int .i64 x.id,.int .i64 x.cd,.int .i64 x.tr,.slice ta 0 tc] 60).below b2:Ro _ _ _ _));have HXz:Hid (Bx wz (w.heap.size+1+1) nilS zeroB):=Lib.hid (by rw[show w.heap.size+1+1=((w.alloc (.cells (bcells s B) 34)).alloc (.cells #[.int .i64 x.pl,.int .i64 x.id,.int .i64 x.cd,.int .i64 x.tr,.slice ta 0 tc] 60)).heap.size by simp];exact(by rw[hwz];exact(Ro.new ((w.alloc (.cells (bcells s B) 34)).alloc (.cells #[.int .i64 x.pl,.int .i64 x.id,.int .i64 x.cd,.int .i64 x.tr,.slice ta 0 tc] 60)) (bcells nilS zeroB) 34)));have HC1:Hid (w.heap.size+3≤wz.heap.size):=Lib.hid (by rw[hwz];simp);clear hwz b0 b1 b2;have d0:wz.cell? ⟨w.heap.size+1,0,none⟩=some (.int .i64 x.pl):=HXx.out.cell 0;have d1:wz.cell? ⟨w.heap.size+1,1,none⟩=some (.int .i64 x.id):=HXx.out.cell 1;have d2:wz.cell? ⟨w.heap.size+1,2,none⟩=some (.int .i64 x.cd):=HXx.out.cell 2;have d3:wz.cell? ⟨w.heap.size+1,3,none⟩=some (.int .i64 x.tr):=HXx.out.cell 3;have d4:wz.cell? ⟨w.heap.size+1,4,none⟩=some (.slice ta 0 tc):=HXx.out.cell 4;go_wp2_with fail
 clear d0 d1 d2 d3 d4;with_reducible refine(pwithinc _ _ _ true _ Q1.out).mono ?_
 rintro e w1 ⟨rfl,hb⟩;have HC2:Hid (wz.heap.size≤w1.heap.size):=Lib.hid (hb.size);replace HB:=Lib.hid (below_via HB.out hb);replace HXb:=Lib.hid (HXb.out.below hb);replace HXx:=Lib.hid (HXx.out.below hb);replace HXz:=Lib.hid (HXz.out.below hb);clear hb;have d0:w1.cell? ⟨w.heap.size+1,0,none⟩=some (.int .i64 x.pl):=HXx.out.cell 0;have d1:w1.cell? ⟨w.heap.size+1,1,none⟩=some (.int .i64 x.id):=HXx.out.cell 1;have d2:w1.cell? ⟨w.heap.size+1,2,none⟩=some (.int .i64 x.cd):=HXx.out.cell 2;have d3:w1.cell? ⟨w.heap.size+1,3,none⟩=some (.int .i64 x.tr):=HXx.out.cell 3;have d4:w1.cell? ⟨w.heap.size+1,4,none⟩=some (.slice ta 0 tc):=HXx.out.cell 4;go_wp2_with fail
 clear d0 d1 d2 d3 d4;with_reducible refine(pwithinc _ _ _ true _ Q2.out).mono ?_
 rintro e w2 ⟨rfl,hb⟩;have HC3:Hid (w1.heap.size≤w2.heap.size):=Lib.hid (hb.size);replace HB:=Lib.hid (below_via HB.out hb);replace HXb:=Lib.hid (HXb.out.below hb);replace HXx:=Lib.hid (HXx.out.below hb);replace HXz:=Lib.hid (HXz.out.below hb);clear hb;have d0:w2.cell? ⟨w.heap.size+1,0,none⟩=some (.int .i64 x.pl):=HXx.out.cell 0;have d1:w2.cell? ⟨w.heap.size+1,1,none⟩=some (.int .i64 x.id):=HXx.out.cell 1;have d2:w2.cell? ⟨w.heap.size+1,2,none⟩=some (.int .i64 x.cd):=HXx.out.cell 2;have d3:w2.cell? ⟨w.heap.size+1,3,none⟩=some (.int .i64 x.tr):=HXx.out.cell 3;have d4:w2.cell? ⟨w.heap.size+1,4,none⟩=some (.slice ta 0 tc):=HXx.out.cell 4;go_wp2_with fail
 clear d0 d1 d2 d3 d4;with_reducible refine(pwithinc _ _ _ true _ Q3.out).mono ?_
 rintro e w3 ⟨rfl,hb⟩;have HC4:Hid (w2.heap.size≤w3.heap.size):=Lib.hid (hb.size);replace HB:=Lib.hid (below_via HB.out hb);replace HXb:=Lib.hid (HXb.out.below hb);replace HXx:=Lib.hid (HXx.out.below hb);replace HXz:=Lib.hid (HXz.out.below hb);clear hb;have d0:w3.cell? ⟨w.heap.size+1,0,none⟩=some (.int .i64 x.pl):=HXx.out.cell 0;have d1:w3.cell? ⟨w.heap.size+1,1,none⟩=some (.int .i64 x.id):=HXx.out.cell 1;have d2:w3.cell? ⟨w.heap.size+1,2,none⟩=some (.int .i64 x.cd):=HXx.out.cell 2;have d3:w3.cell? ⟨w.heap.size+1,3,none⟩=some (.int .i64 x.tr):=HXx.out.cell 3;have d4:w3.cell? ⟨w.heap.size+1,4,none⟩=some (.slice ta 0 tc):=HXx.out.cell 4;go_wp2_with fail
 clear d0 d1 d2 d3 d4;with_reducible refine(pwithinc _ _ _ true _ Q4.out).mono ?_
 rintro e w4 ⟨rfl,hb⟩;have HC5:Hid (w3.heap.size≤w4.heap.size):=Lib.hid (hb.size);replace HB:=Lib.hid (below_via HB.out hb);replace HXb:=Lib.hid (HXb.out.below hb);replace HXx:=Lib.hid (HXx.out.below hb);replace HXz:=Lib.hid (HXz.out.below hb);clear hb;go_wp2_with (first|(refine wpList_load_bx _ rfl rfl HXb.out (by kernel_rfl) ?_))
 with_reducible refine(bvalid s (B) _ (HR.out.below HB.out) HI.out HSM.out).mono ?_
 rintro e w5 ⟨⟨r,rfl,hr⟩,hb⟩;have HC6:Hid (w4.heap.size≤w5.heap.size):=Lib.hid (hb.size);replace HB:=Lib.hid (below_via HB.out hb);replace HXb:=Lib.hid (HXb.out.below hb);replace HXx:=Lib.hid (HXx.out.below hb);replace HXz:=Lib.hid (HXz.out.below hb);obtain rfl:r=true:=hr.2 HV.out;clear hr hb;have d0:w5.cell? ⟨w.heap.size+1,0,none⟩=some (.int .i64 x.pl):=HXx.out.cell 0;have d1:w5.cell? ⟨w.heap.size+1,1,none⟩=some (.int .i64 x.id):=HXx.out.cell 1;have d2:w5.cell? ⟨w.heap.size+1,2,none⟩=some (.int .i64 x.cd):=HXx.out.cell 2;have d3:w5.cell? ⟨w.heap.size+1,3,none⟩=some (.int .i64 x.tr):=HXx.out.cell 3;have d4:w5.cell? ⟨w.heap.size+1,4,none⟩=some (.slice ta 0 tc):=HXx.out.cell 4;have k29:w5.cell? ⟨w.heap.size,29,none⟩=some (.slice a29 B.st.length c29):=by rw[←E29.out];exact HXb.out.cell 29
 have t1:decide ((B.st.length:Int)≥200)=true:=decide_eq_true (by omega);have t1':decide (B.st.length≥200)=true:=decide_eq_true (by omega);clear hl
 go_upto_region 6 with fail
 clear d0 d1 d2 d3 d4 k29 t1 t1';go_wp2_with (first|(refine wpList_store_bh (s:=nilS) (B:=zeroB) rfl _ _ rfl rfl rfl HXz.out rfl ?_;intro w6 hw9))
 have hg9:Bx w6 (w.heap.size+1+1) nilS (zeroB):=by rw[hw9.out];exact Bx.row HXz.out _ _
 have ho9:Onl [w.heap.size+1+1] w5 w6:=by rw[hw9.out];exact Onl.setRow (Onl.refl _ _) (.inl (by simp)) _
 have hlo:w.heap.size≤w.heap.size+1+1:=by(have o0:=HC1.out;have o1:=HC2.out;have o2:=HC3.out;have o3:=HC4.out;have o4:=HC5.out;have o5:=HC6.out;have x0:=HXb.out.lt;have x1:=HXx.out.lt;have x2:=HXz.out.lt;omega)
 have hb9:Below w.heap.size w w6:=belowOnl HB.out ho9 (by simp only[List.mem_singleton,forall_eq];exact hlo) HB.out.size;have HG9:=Lib.hid hg9;have HPOST:Hid (BrA w (zeroB) (.int .i64 7) (.returned (.tuple #[bv nilS (zeroB),.int .i64 7])) w6):=Lib.hid ⟨_,rfl,zeroOwn _ _ _,hb9⟩;clear hw9 hg9 ho9 hb9 hlo;go_wp2_with fail
 exact bodyPost_ret (v:= .tuple #[bv nilS (zeroB),.int .i64 7]) (results_b1 Try.results48 _ _ HG9.out rfl rfl) rfl HPOST.out
set_option maxRecDepth 100000 in
set_option maxHeartbeats 4000000 in
theorem push_ok(s:Bs)(B:Bd)(x:It)(ta:Option Addr)(tc:Nat)(w:World)(h:BdR w s B)(hi:B.I)(hsm:B.Sm)(hv:VB B)(hx:itQ x)(htl:B.Tl)(hl:B.st.length<200)(hta:(⟨ta,0,tc⟩:Sl)=nilSl∨∃a c,Value.slice ta 0 tc= .slice (some a) 0 c):Calls Try.prog 48 #[bv s B,.agg #[.int .i64 x.pl,.int .i64 x.id,.int .i64 x.cd,.int .i64 x.tr,.slice ta 0 tc]] w (BrA w (puB B x) (.int .i64 0)):=by
 have HTL:=Lib.hid htl;have HTA:=Lib.hid hta;clear htl hta;have HR:=Lib.hid h;have HI:=Lib.hid hi;have HSM:=Lib.hid hsm;have HV:=Lib.hid hv;have HQ:=Lib.hid hx
 obtain⟨_,a29,c29,e29,_⟩:∃l' a c,s.st.v= .slice a B.st.length c∧Rw itc 5 w s.st.v l':=by
  obtain⟨l',hl,hr,_⟩:=h.st
  obtain⟨_,a,c,e,_⟩:=hr.form
  exact⟨l',a,c,by rw[e,←hl,List.length_map],hr⟩
 have q1:decide (0≤x.pl∧x.pl≤1)=true:=decide_eq_true hx.1;have q2:decide (1≤x.id∧x.id≤500)=true:=decide_eq_true hx.2.1;have q3:decide (0≤x.cd∧x.cd≤399)=true:=decide_eq_true hx.2.2.1;have q4:decide (0≤x.tr∧x.tr≤1)=true:=decide_eq_true hx.2.2.2.1;have Q1:=Lib.hid q1;have Q2:=Lib.hid q2;have Q3:=Lib.hid q3;have Q4:=Lib.hid q4;have E29:=Lib.hid e29;clear h hi hsm hv hx q1 q2 q3 q4 e29;go_enter Try.func48,Try.ntmps48
 go_upto_region 1 with fail
 change Code.wp Try.prog _ _ _ (((w.alloc (.cells (bcells s B) 34)).alloc (.cells #[.int .i64 x.pl,.int .i64 x.id,.int .i64 x.cd,.int .i64 x.tr,.slice ta 0 tc] 60)).alloc (.cells (bcells nilS zeroB) 34))
 obtain⟨wz,hwz⟩:∃W,W=(((w.alloc (.cells (bcells s B) 34)).alloc (.cells #[.int .i64 x.pl,.int .i64 x.id,.int .i64 x.cd,.int .i64 x.tr,.slice ta 0 tc] 60)).alloc (.cells (bcells nilS zeroB) 34)):=⟨_,rfl⟩
 rw[←hwz];have b0:Below w.heap.size w (w.alloc (.cells (bcells s B) 34)):=by exact(Below.refl _ _).alloc (Nat.le_refl _) _
 have b1:Below (w.alloc (.cells (bcells s B) 34)).heap.size (w.alloc (.cells (bcells s B) 34)) ((w.alloc (.cells (bcells s B) 34)).alloc (.cells #[.int .i64 x.pl,.int .i64 x.id,.int .i64 x.cd,.int .i64 x.tr,.slice ta 0 tc] 60)):=by exact(Below.refl _ _).alloc (Nat.le_refl _) _
 have b2:Below ((w.alloc (.cells (bcells s B) 34)).alloc (.cells #[.int .i64 x.pl,.int .i64 x.id,.int .i64 x.cd,.int .i64 x.tr,.slice ta 0 tc] 60)).heap.size ((w.alloc (.cells (bcells s B) 34)).alloc (.cells #[.int .i64 x.pl,.int .i64 x.id,.int .i64 x.cd,.int .i64 x.tr,.slice ta 0 tc] 60)) wz:=by rw[hwz];exact(Below.refl _ _).alloc (Nat.le_refl _) _
 have HB:Hid (Below w.heap.size w wz):=Lib.hid (below_via (below_via b0 b1) b2);have HXb:Hid (Bx wz (w.heap.size) s B):=Lib.hid (((Ro.new w (bcells s B) 34).below b1:Ro _ _ _ _).below b2);have HXx:Hid (Ro wz (w.heap.size+1) #[.int .i64 x.pl,.int .i64 x.id,.int .i64 x.cd,.int .i64 x.tr,.slice ta 0 tc] 60):=Lib.hid (by rw[show w.heap.size+1=(w.alloc (.cells (bcells s B) 34)).heap.size by simp];exact((Ro.new (w.alloc (.cells (bcells s B) 34)) #[.int .i64 x.pl,.int .i64 x.id,.int .i64 x.cd,.int .i64 x.tr,.slice ta 0 tc] 60).below b2:Ro _ _ _ _));have HXz:Hid (Bx wz (w.heap.size+1+1) nilS zeroB):=Lib.hid (by rw[show w.heap.size+1+1=((w.alloc (.cells (bcells s B) 34)).alloc (.cells #[.int .i64 x.pl,.int .i64 x.id,.int .i64 x.cd,.int .i64 x.tr,.slice ta 0 tc] 60)).heap.size by simp];exact(by rw[hwz];exact(Ro.new ((w.alloc (.cells (bcells s B) 34)).alloc (.cells #[.int .i64 x.pl,.int .i64 x.id,.int .i64 x.cd,.int .i64 x.tr,.slice ta 0 tc] 60)) (bcells nilS zeroB) 34)));have HC1:Hid (w.heap.size+3≤wz.heap.size):=Lib.hid (by rw[hwz];simp);clear hwz b0 b1 b2;have d0:wz.cell? ⟨w.heap.size+1,0,none⟩=some (.int .i64 x.pl):=HXx.out.cell 0;have d1:wz.cell? ⟨w.heap.size+1,1,none⟩=some (.int .i64 x.id):=HXx.out.cell 1;have d2:wz.cell? ⟨w.heap.size+1,2,none⟩=some (.int .i64 x.cd):=HXx.out.cell 2;have d3:wz.cell? ⟨w.heap.size+1,3,none⟩=some (.int .i64 x.tr):=HXx.out.cell 3;have d4:wz.cell? ⟨w.heap.size+1,4,none⟩=some (.slice ta 0 tc):=HXx.out.cell 4;go_wp2_with fail
 clear d0 d1 d2 d3 d4;with_reducible refine(pwithinc _ _ _ true _ Q1.out).mono ?_
 rintro e w1 ⟨rfl,hb⟩;have HC2:Hid (wz.heap.size≤w1.heap.size):=Lib.hid (hb.size);replace HB:=Lib.hid (below_via HB.out hb);replace HXb:=Lib.hid (HXb.out.below hb);replace HXx:=Lib.hid (HXx.out.below hb);replace HXz:=Lib.hid (HXz.out.below hb);clear hb;have d0:w1.cell? ⟨w.heap.size+1,0,none⟩=some (.int .i64 x.pl):=HXx.out.cell 0;have d1:w1.cell? ⟨w.heap.size+1,1,none⟩=some (.int .i64 x.id):=HXx.out.cell 1;have d2:w1.cell? ⟨w.heap.size+1,2,none⟩=some (.int .i64 x.cd):=HXx.out.cell 2;have d3:w1.cell? ⟨w.heap.size+1,3,none⟩=some (.int .i64 x.tr):=HXx.out.cell 3;have d4:w1.cell? ⟨w.heap.size+1,4,none⟩=some (.slice ta 0 tc):=HXx.out.cell 4;go_wp2_with fail
 clear d0 d1 d2 d3 d4;with_reducible refine(pwithinc _ _ _ true _ Q2.out).mono ?_
 rintro e w2 ⟨rfl,hb⟩;have HC3:Hid (w1.heap.size≤w2.heap.size):=Lib.hid (hb.size);replace HB:=Lib.hid (below_via HB.out hb);replace HXb:=Lib.hid (HXb.out.below hb);replace HXx:=Lib.hid (HXx.out.below hb);replace HXz:=Lib.hid (HXz.out.below hb);clear hb;have d0:w2.cell? ⟨w.heap.size+1,0,none⟩=some (.int .i64 x.pl):=HXx.out.cell 0;have d1:w2.cell? ⟨w.heap.size+1,1,none⟩=some (.int .i64 x.id):=HXx.out.cell 1;have d2:w2.cell? ⟨w.heap.size+1,2,none⟩=some (.int .i64 x.cd):=HXx.out.cell 2;have d3:w2.cell? ⟨w.heap.size+1,3,none⟩=some (.int .i64 x.tr):=HXx.out.cell 3;have d4:w2.cell? ⟨w.heap.size+1,4,none⟩=some (.slice ta 0 tc):=HXx.out.cell 4;go_wp2_with fail
 clear d0 d1 d2 d3 d4;with_reducible refine(pwithinc _ _ _ true _ Q3.out).mono ?_
 rintro e w3 ⟨rfl,hb⟩;have HC4:Hid (w2.heap.size≤w3.heap.size):=Lib.hid (hb.size);replace HB:=Lib.hid (below_via HB.out hb);replace HXb:=Lib.hid (HXb.out.below hb);replace HXx:=Lib.hid (HXx.out.below hb);replace HXz:=Lib.hid (HXz.out.below hb);clear hb;have d0:w3.cell? ⟨w.heap.size+1,0,none⟩=some (.int .i64 x.pl):=HXx.out.cell 0;have d1:w3.cell? ⟨w.heap.size+1,1,none⟩=some (.int .i64 x.id):=HXx.out.cell 1;have d2:w3.cell? ⟨w.heap.size+1,2,none⟩=some (.int .i64 x.cd):=HXx.out.cell 2;have d3:w3.cell? ⟨w.heap.size+1,3,none⟩=some (.int .i64 x.tr):=HXx.out.cell 3;have d4:w3.cell? ⟨w.heap.size+1,4,none⟩=some (.slice ta 0 tc):=HXx.out.cell 4;go_wp2_with fail
 clear d0 d1 d2 d3 d4;with_reducible refine(pwithinc _ _ _ true _ Q4.out).mono ?_
 rintro e w4 ⟨rfl,hb⟩;have HC5:Hid (w3.heap.size≤w4.heap.size):=Lib.hid (hb.size);replace HB:=Lib.hid (below_via HB.out hb);replace HXb:=Lib.hid (HXb.out.below hb);replace HXx:=Lib.hid (HXx.out.below hb);replace HXz:=Lib.hid (HXz.out.below hb);clear hb;go_wp2_with (first|(refine wpList_load_bx _ rfl rfl HXb.out (by kernel_rfl) ?_))
 with_reducible refine(bvalid s (B) _ (HR.out.below HB.out) HI.out HSM.out).mono ?_
 rintro e w5 ⟨⟨r,rfl,hr⟩,hb⟩;have HC6:Hid (w4.heap.size≤w5.heap.size):=Lib.hid (hb.size);replace HB:=Lib.hid (below_via HB.out hb);replace HXb:=Lib.hid (HXb.out.below hb);replace HXx:=Lib.hid (HXx.out.below hb);replace HXz:=Lib.hid (HXz.out.below hb);obtain rfl:r=true:=hr.2 HV.out;clear hr hb;have d0:w5.cell? ⟨w.heap.size+1,0,none⟩=some (.int .i64 x.pl):=HXx.out.cell 0;have d1:w5.cell? ⟨w.heap.size+1,1,none⟩=some (.int .i64 x.id):=HXx.out.cell 1;have d2:w5.cell? ⟨w.heap.size+1,2,none⟩=some (.int .i64 x.cd):=HXx.out.cell 2;have d3:w5.cell? ⟨w.heap.size+1,3,none⟩=some (.int .i64 x.tr):=HXx.out.cell 3;have d4:w5.cell? ⟨w.heap.size+1,4,none⟩=some (.slice ta 0 tc):=HXx.out.cell 4;have k29:w5.cell? ⟨w.heap.size,29,none⟩=some (.slice a29 B.st.length c29):=by rw[←E29.out];exact HXb.out.cell 29
 have t1:decide ((B.st.length:Int)≥200)=false:=decide_eq_false (by omega);have t1':decide (B.st.length≥200)=false:=decide_eq_false (by omega);have HL:=Lib.hid hl;clear hl
 go_upto_region 7 with fail
 clear d0 d1 d2 d3 d4 k29 t1 t1';go_wp2_with (first|(refine wpList_load_bx _ rfl rfl HXb.out (by kernel_rfl) ?_))
 with_reducible refine(bcopy s B _ (HR.out.below HB.out) HSM.out HTL.out).mono ?_
 rintro e w6 ⟨sc,rfl,ho,hb⟩;have HC7:Hid (w5.heap.size≤w6.heap.size):=Lib.hid (hb.size);replace HB:=Lib.hid (below_via HB.out hb);replace HXb:=Lib.hid (HXb.out.below hb);replace HXx:=Lib.hid (HXx.out.below hb);replace HXz:=Lib.hid (HXz.out.below hb);have HOc:=Lib.hid ho;clear ho hb;go_wp2_with (first|(refine wpList_store_bh rfl _ _ rfl rfl rfl (heap_alloc_new _ _) rfl ?_))
 intro w7 hw0;have hbx:=boxed hw0.out
 obtain⟨nc,hn⟩:∃n,n=w6.heap.size:=⟨_,rfl⟩
 rw[←hn] at hbx ⊢
 have hb:=hbx.1;rw[hn] at hb
 clear hw0;replace HB:=Lib.hid (below_via HB.out hb);replace HXb:=Lib.hid (HXb.out.below hb);replace HXx:=Lib.hid (HXx.out.below hb);replace HXz:=Lib.hid (HXz.out.below hb);replace HOc:=Lib.hid (HOc.out.below hb);have HXc:Hid (Bx w7 nc sc (B)):=Lib.hid hbx.2;have HC8:Hid (w6.heap.size≤nc∧nc<w7.heap.size):=Lib.hid (⟨by omega,hbx.2.lt⟩);clear hbx hn hb
 obtain⟨l',hl',hox,hot⟩:=HOc.out.st
 obtain⟨qa,qc,hqv⟩:=hox.1.form
 have hll:l'.length=B.st.length:=by rw[←hl',List.length_map]
 have k29:w7.cell? ⟨nc,29,none⟩=some (.slice qa l'.length qc):=by rw[←hqv];exact HXc.out.cell 29
 have f29:w7.frozen? ⟨nc,29,none⟩=false:=HXc.out.free 29;rw[hqv] at hox
 have HL':=Lib.hid hl';have HLL:=Lib.hid hll;have HOXQ:=Lib.hid hox;have HOT:=Lib.hid hot;have HQV:=Lib.hid hqv;have hnc:nc<w7.heap.size:=HXc.out.lt;clear hl' hox hot hqv hll;have d0:w7.cell? ⟨w.heap.size+1,0,none⟩=some (.int .i64 x.pl):=HXx.out.cell 0;have d1:w7.cell? ⟨w.heap.size+1,1,none⟩=some (.int .i64 x.id):=HXx.out.cell 1;have d2:w7.cell? ⟨w.heap.size+1,2,none⟩=some (.int .i64 x.cd):=HXx.out.cell 2;have d3:w7.cell? ⟨w.heap.size+1,3,none⟩=some (.int .i64 x.tr):=HXx.out.cell 3;have d4:w7.cell? ⟨w.heap.size+1,4,none⟩=some (.slice ta 0 tc):=HXx.out.cell 4;go_wp2_with (at_builtin;refine wpList_append_ow (f:=itc) (sz:=5) rfl _ _ 30 rfl w5.heap.size 60 (.agg #[.int .i64 0,.int .i64 0,.int .i64 0,.int .i64 0,.slice none 0 0]) 56 Try.underlying30 infoX rfl (by decide) _ l' rfl (HOXQ.out.1.below ((Below.refl _ _).alloc (Nat.le_refl _) _)) itc_ok _ [(x,⟨ta,0,tc⟩)] rfl (Rw.one2 (f:=itc) (sz:=5) _ 60 (x,⟨ta,0,tc⟩) #[.int .i64 x.pl,.int .i64 x.id,.int .i64 x.cd,.int .i64 x.tr,.slice ta 0 tc] rfl 1 _ rfl) ?c2 ?c3 ?c4 ?_)
 case c2=>simp[maxLen];have:=HLL.out;have:=HL.out;omega
 case c3=>simp;have:=HLL.out;have:=HL.out;omega
 case c4=>have:=HOXQ.out;simp;(have o0:=HC1.out;have o1:=HC2.out;have o2:=HC3.out;have o3:=HC4.out;have o4:=HC5.out;have o5:=HC6.out;have o6:=HC7.out;have o7:=HC8.out;have x0:=HXb.out.lt;have x1:=HXx.out.lt;have x2:=HXz.out.lt;have x3:=HXc.out.lt;omega)
 intro v8 w8' ho8 hg8 hv8
 obtain⟨va,vc,rfl⟩:=ho8.form
 obtain⟨n1,hn1⟩:∃n1,n1=(l'++[(x,(⟨ta,0,tc⟩:Sl))]).length:=⟨_,rfl⟩
 rw[←hn1] at ho8 hv8 ⊢
 have hgz:w7.grownBy w8' (Value.slice qa l'.length qc).ownBlock:=grown_trans (grown_below ((Below.refl _ _).alloc (Nat.le_refl _) _)) hg8;have hrow:∀q,(Value.slice qa l'.length qc).ownBlock=some q→w5.heap.size≤q∧q<w6.heap.size:=fun q hq=>⟨(HOXQ.out.blk hq).1,(HOXQ.out.blk hq).2.1⟩
 have hxc:Bx w8' nc sc B:=HXc.out.grown hgz (fun e=>by have h1:=hrow _ e;(have o0:=HC1.out;have o1:=HC2.out;have o2:=HC3.out;have o3:=HC4.out;have o4:=HC5.out;have o5:=HC6.out;have o6:=HC7.out;have o7:=HC8.out;have x0:=HXb.out.lt;have x1:=HXx.out.lt;have x2:=HXz.out.lt;have x3:=HXc.out.lt;omega));have hxz:Bx w8' (w.heap.size+1+1) nilS zeroB:=HXz.out.grown hgz (fun e=>by have h1:=hrow _ e;(have o0:=HC1.out;have o1:=HC2.out;have o2:=HC3.out;have o3:=HC4.out;have o4:=HC5.out;have o5:=HC6.out;have o6:=HC7.out;have o7:=HC8.out;have x0:=HXb.out.lt;have x1:=HXx.out.lt;have x2:=HXz.out.lt;have x3:=HXc.out.lt;omega));have hb8:Below w.heap.size w w8':=HB.out.grown hgz HB.out.size (fun q hq=>by have h1:=hrow _ hq;(have o0:=HC1.out;have o1:=HC2.out;have o2:=HC3.out;have o3:=HC4.out;have o4:=HC5.out;have o5:=HC6.out;have o6:=HC7.out;have o7:=HC8.out;have x0:=HXb.out.lt;have x1:=HXx.out.lt;have x2:=HXz.out.lt;have x3:=HXc.out.lt;omega))
 have hq8:ItO (w5.heap.size) w8'.heap.size w8' (.slice va n1 vc) (puB B x).st:=ItO.grew (m:=[(x,(⟨ta,0,tc⟩:Sl))]) HL'.out HOXQ.out HOT.out ho8 hgz (fun y hy=>by
  have e:=List.mem_singleton.1 hy;subst e
  exact⟨HTA.out,HQ.out.2.2.2.2⟩) (Nat.le_trans (by(have o0:=HC1.out;have o1:=HC2.out;have o2:=HC3.out;have o3:=HC4.out;have o4:=HC5.out;have o5:=HC6.out;have o6:=HC7.out;have o7:=HC8.out;have x0:=HXb.out.lt;have x1:=HXx.out.lt;have x2:=HXz.out.lt;have x3:=HXc.out.lt;omega)) hgz.size)
 have ho2:BdO (w5.heap.size) w8'.heap.size w8' {sc with st:=⟨va,n1,vc⟩} (puB B x):=HOc.out.newSt (by(have o0:=HC1.out;have o1:=HC2.out;have o2:=HC3.out;have o3:=HC4.out;have o4:=HC5.out;have o5:=HC6.out;have o6:=HC7.out;have o7:=HC8.out;have x0:=HXb.out.lt;have x1:=HXx.out.lt;have x2:=HXz.out.lt;have x3:=HXc.out.lt;omega)) ⟨va,n1,vc⟩ _ (by rw[HQV.out];exact hgz) hq8 (by
  rw[HQV.out];rcases hv8 with h1|h1
  ·exact .inl h1
  ·exact .inr ⟨_,h1,by simp⟩)
 replace HOc:=Lib.hid ho2;replace HB:=Lib.hid hb8;replace HXc:=Lib.hid hxc;replace HXz:=Lib.hid hxz;have HCz:Hid (w7.heap.size≤w8'.heap.size):=Lib.hid hgz.size;clear ho8 hg8 hv8 hgz hrow hxc hxz hb8 hq8 ho2 k29 f29 hnc HOT HXb HXx hn1;clear d0;clear d1;clear d2;clear d3;clear d4;have c29:w8'.cell? ⟨nc,29,none⟩=some (sc.st.v):=HXc.out.cell 29;have f29:w8'.frozen? ⟨nc,29,none⟩=false:=HXc.out.free 29
 go_upto_region 9 with fail
 obtain⟨w8,hw⟩:∃X,X=w8'.setCell ⟨nc,29,none⟩ (.slice va n1 vc):=⟨_,rfl⟩
 rw[←hw];have hon:Onl [nc] w8' w8:=by rw[hw];exact Onl.setCell (Onl.refl _ _) (.inl (by simp)) _
 have hx:Bx w8 (nc) {sc with st:=⟨va,n1,vc⟩} (puB B x):=by rw[hw];exact HXc.out.put 29 _ rfl
 clear hw c29 f29;have hlo:w.heap.size≤nc:=by(have o0:=HC1.out;have o1:=HC2.out;have o2:=HC3.out;have o3:=HC4.out;have o4:=HC5.out;have o5:=HC6.out;have o6:=HC7.out;have o7:=HC8.out;have o8:=HCz.out;have x0:=HXz.out.lt;have x1:=HXc.out.lt;omega)
 have hls:w.heap.size≤w8'.heap.size:=HB.out.size;replace HB:=Lib.hid (belowOnl HB.out hon (by simp only[List.mem_singleton,forall_eq];exact hlo) hls);replace HXz:=Lib.hid (HXz.out.onl hon (by simp only[List.mem_singleton];(have o0:=HC1.out;have o1:=HC2.out;have o2:=HC3.out;have o3:=HC4.out;have o4:=HC5.out;have o5:=HC6.out;have o6:=HC7.out;have o7:=HC8.out;have o8:=HCz.out;have x0:=HXz.out.lt;have x1:=HXc.out.lt;omega)));replace HOc:=Lib.hid (HOc.out.onlB hon HXc.out);have HC9:Hid (w8'.heap.size≤w8.heap.size):=Lib.hid (hon.size);clear hlo hls;replace HXc:=Lib.hid hx;clear hx hon;go_wp2_with (first|(refine wpList_load_bx _ rfl rfl HXc.out (by kernel_rfl) ?_)|(refine wpList_store_bh (s:={sc with st:=⟨va,n1,vc⟩}) (B:=puB B x) rfl _ _ rfl rfl rfl HXz.out rfl ?_;intro w9 hw9))
 have hg9:Bx w9 (w.heap.size+1+1) {sc with st:=⟨va,n1,vc⟩} (puB B x):=by rw[hw9.out];exact Bx.row HXz.out _ _
 have ho9:Onl [w.heap.size+1+1] w8 w9:=by rw[hw9.out];exact Onl.setRow (Onl.refl _ _) (.inl (by simp)) _
 have hlo:w.heap.size≤w.heap.size+1+1:=by(have o0:=HC1.out;have o1:=HC2.out;have o2:=HC3.out;have o3:=HC4.out;have o4:=HC5.out;have o5:=HC6.out;have o6:=HC7.out;have o7:=HC8.out;have o8:=HCz.out;have o9:=HC9.out;have x0:=HXz.out.lt;have x1:=HXc.out.lt;omega)
 have hb9:Below w.heap.size w w9:=belowOnl HB.out ho9 (by simp only[List.mem_singleton,forall_eq];exact hlo) HB.out.size;have HG9:=Lib.hid hg9;have HPOST:Hid (BrA w (puB B x) (.int .i64 0) (.returned (.tuple #[bv {sc with st:=⟨va,n1,vc⟩} (puB B x),.int .i64 0])) w9):=Lib.hid ⟨_,rfl,(HOc.out.onlB ho9 HXz.out).mono (by(have o0:=HC1.out;have o1:=HC2.out;have o2:=HC3.out;have o3:=HC4.out;have o4:=HC5.out;have o5:=HC6.out;have o6:=HC7.out;have o7:=HC8.out;have o8:=HCz.out;have o9:=HC9.out;have x0:=HXz.out.lt;have x1:=HXc.out.lt;omega)) (by have h9:=ho9.size;(have o0:=HC1.out;have o1:=HC2.out;have o2:=HC3.out;have o3:=HC4.out;have o4:=HC5.out;have o5:=HC6.out;have o6:=HC7.out;have o7:=HC8.out;have o8:=HCz.out;have o9:=HC9.out;have x0:=HXz.out.lt;have x1:=HXc.out.lt;omega)),hb9⟩;clear hw9 hg9 ho9 hb9 hlo;go_wp2_with fail
 exact bodyPost_ret (v:= .tuple #[bv {sc with st:=⟨va,n1,vc⟩} (puB B x),.int .i64 0]) (results_b1 Try.results48 _ _ HG9.out rfl rfl) rfl HPOST.out
end Go.Proofs.Ytgkgbpapfjjkcaa
