/- A store into an object of a board of our own. The cards of the chapter's examples; the law's checks. -/
import Derived.Test.YtpbepnpnpopmfaaTTk
import Derived.Deep.DeepCutAuto
import Derived.LoopTactic
import Derived.Deep.MidRow
import Derived.Test.YtpbepnpnpopmfaaUKv
import Derived.Test.YtpbepnpnpopmfaaBSa
namespace Go.Proofs.Ytpbepnpnpopmfaa
open Go.RowKit Plain
set_option linter.unusedVariables false
set_option linter.unusedSimpArgs false

theorem BdO.cellOb{lo hi:Nat}{w:World}{s:Bs}{B:Bd}{g n c:Nat}(h:BdO lo hi w s B)(hs:s.ob.v= .slice (some ⟨g,0,none⟩) n c){k j:Nat}{x:Ob}{u:Value}(hk:B.ob[k]? =some x)(hj:(oc x)[j]? =some u)(q:Nat)(hq:q=k*12+j):w.cell? ⟨g,q,none⟩=some u∧w.frozen? ⟨g,q,none⟩=false:=by
 have h1:=h.ob;rw[hs] at h1
 exact h1.at oc_len hk hj q hq
/-- one cell of an object of a board of our own is another one -/
theorem BdO.setC{lo hi:Nat}{w:World}{s:Bs}{B:Bd}{g n c:Nat}(h:BdO lo hi w s B)(hs:s.ob.v= .slice (some ⟨g,0,none⟩) n c){k j:Nat}{x x':Ob}{u:Value}(hk:B.ob[k]? =some x)(hj:j<12)(hx:oc x' =(oc x).set j u)(q:Nat)(hq:q=k*12+j):BdO lo hi (w.setCell ⟨g,q,none⟩ u) s {B with ob:=B.ob.set k x'}:=by
 have hob:=h.ob;rw[hs] at hob
 have hg:∃cur,w.heap[g]? =some (.cells cur 42 (0,0)):=by obtain⟨_,_,c,hc⟩:=hob.1.typ g rfl;exact⟨c,hc⟩
 have hon:Onl [g] w (w.setCell ⟨g,q,none⟩ u):=Onl.setCell (Onl.refl _ _) (.inl (by simp)) _;have hr:=grown_onl hon;have ht:∀b,(some g:Option Nat)=some b→∃cur,w.heap[b]? =some (.cells cur 42 (0,0)):=fun b hb=>by cases hb;exact hg
 have hi2:∀{v:Value} {L:List It},ItO lo hi w v L→ItO lo hi (w.setCell ⟨g,q,none⟩ u) v L:=fun h=>by
  obtain⟨l',g1,g2,g3⟩:=h
  exact⟨l',g1,g2.other hr ht (by decide) (Nat.le_refl _),fun x hx=>(g3 x hx).map (fun h=>h.other hr ht (by decide) (Nat.le_refl _))⟩
 refine⟨?_,fun j hj=>(h.il j hj).other hr ht (by decide) (Nat.le_refl _),h.nd,hi2 h.st,hi2 h.qu,h.ns,h.bl.other hr ht (by decide) (Nat.le_refl _)⟩
 show Ox oc 12 42 lo hi _ s.ob.v (B.ob.set k x')
 rw[hs];exact hob.setc oc_len hk hj hx q hq
theorem zal(W:World):W.alloc (.cells #[.slice none 0 0,.int .i64 0,.int .i64 0,.int .i64 0,.int .i64 0,.int .i64 0,.slice none 0 0,.slice none 0 0,.slice none 0 0,.slice none 0 0,.bool false,.bool false,.bool false,.int .i64 0,.int .i64 0,.int .i64 0,.int .i64 0,.int .i64 0,.int .i64 0,.int .i64 0,.slice none 0 0,.slice none 0 0,.slice none 0 0,.slice none 0 0,.bool false,.bool false,.bool false,.int .i64 0,.int .i64 0,.slice none 0 0,.slice none 0 0,.slice none 0 0,.slice none 0 0,.int .i64 0,.int .i64 0,.int .i64 0,.int .i64 0,.int .i64 0] 34)=W.alloc (.cells (bcells nilS zeroB) 34):=rfl
end Go.Proofs.Ytpbepnpnpopmfaa
namespace Go.Proofs.Ytpbepnpnpopmfaa
open Go.RowKit Plain
set_option linter.unusedVariables false
set_option linter.unusedSimpArgs false

theorem Rw.of_ro{α:Type}{f:α→List Value}{sz:Nat}{W:World}{P:Nat}{C:Array Value}{t:TypeId}(h:Ro W P C t)(l:List α)(hC:C.toList=l.flatMap f)(hs:∀x∈l,(f x).length=sz)(h0:l≠[])(hm:l.length≤maxLen)(n cap:Nat)(hn:n=l.length):Rw f sz W (.slice (some ⟨P,0,none⟩) n cap) l:=by
 subst hn;exact .inr ⟨h0,hm,P,0,cap,rfl,h.lt,fun i x hi j u hu=>by rw[Nat.zero_add,h.cell,←Array.getElem?_toList,hC];exact flat_at hs hi hu⟩
theorem pool_rd(w:World):CsR (((w.alloc (.cells #[.int .i64 2,.int .i64 0,.int .i64 1,.int .i64 0,.int .i64 0] 75)).alloc (.cells #[.int .i64 1,.slice (some ⟨w.heap.size,0,none⟩) 1 1] 78)).alloc (.cells #[.string ⟨#[]⟩,.int .i64 2,.int .i64 0,.int .i64 0,.int .i64 0,.int .i64 0,.int .i64 0,.int .i64 0,.int .i64 2,.int .i64 2,.int .i64 0,.slice none 0 0,.slice (some ⟨w.heap.size+1,0,none⟩) 1 1,.int .i64 0,.string ⟨#[]⟩,.int .i64 1,.int .i64 0,.int .i64 0,.int .i64 0,.int .i64 0,.int .i64 0,.int .i64 0,.int .i64 0,.int .i64 0,.int .i64 0,.slice none 0 0,.slice none 0 0,.int .i64 0] 84)) (.slice (some ⟨w.heap.size+1+1,0,none⟩) 2 2) (csP (w.heap.size+1)):=by
 have b1:Below (w.alloc (.cells #[.int .i64 2,.int .i64 0,.int .i64 1,.int .i64 0,.int .i64 0] 75)).heap.size (w.alloc (.cells #[.int .i64 2,.int .i64 0,.int .i64 1,.int .i64 0,.int .i64 0] 75)) ((w.alloc (.cells #[.int .i64 2,.int .i64 0,.int .i64 1,.int .i64 0,.int .i64 0] 75)).alloc (.cells #[.int .i64 1,.slice (some ⟨w.heap.size,0,none⟩) 1 1] 78)):=(Below.refl _ _).alloc (Nat.le_refl _) _;have b2:Below ((w.alloc (.cells #[.int .i64 2,.int .i64 0,.int .i64 1,.int .i64 0,.int .i64 0] 75)).alloc (.cells #[.int .i64 1,.slice (some ⟨w.heap.size,0,none⟩) 1 1] 78)).heap.size ((w.alloc (.cells #[.int .i64 2,.int .i64 0,.int .i64 1,.int .i64 0,.int .i64 0] 75)).alloc (.cells #[.int .i64 1,.slice (some ⟨w.heap.size,0,none⟩) 1 1] 78)) (((w.alloc (.cells #[.int .i64 2,.int .i64 0,.int .i64 1,.int .i64 0,.int .i64 0] 75)).alloc (.cells #[.int .i64 1,.slice (some ⟨w.heap.size,0,none⟩) 1 1] 78)).alloc (.cells #[.string ⟨#[]⟩,.int .i64 2,.int .i64 0,.int .i64 0,.int .i64 0,.int .i64 0,.int .i64 0,.int .i64 0,.int .i64 2,.int .i64 2,.int .i64 0,.slice none 0 0,.slice (some ⟨w.heap.size+1,0,none⟩) 1 1,.int .i64 0,.string ⟨#[]⟩,.int .i64 1,.int .i64 0,.int .i64 0,.int .i64 0,.int .i64 0,.int .i64 0,.int .i64 0,.int .i64 0,.int .i64 0,.int .i64 0,.slice none 0 0,.slice none 0 0,.int .i64 0] 84)):=(Below.refl _ _).alloc (Nat.le_refl _) _;have e1:(w.alloc (.cells #[.int .i64 2,.int .i64 0,.int .i64 1,.int .i64 0,.int .i64 0] 75)).heap.size=w.heap.size+1:=by simp
 have e2:((w.alloc (.cells #[.int .i64 2,.int .i64 0,.int .i64 1,.int .i64 0,.int .i64 0] 75)).alloc (.cells #[.int .i64 1,.slice (some ⟨w.heap.size,0,none⟩) 1 1] 78)).heap.size=w.heap.size+1+1:=by simp
 have r0:=((Ro.new w #[.int .i64 2,.int .i64 0,.int .i64 1,.int .i64 0,.int .i64 0] 75).below b1).below b2;have r1:=(Ro.new (w.alloc (.cells #[.int .i64 2,.int .i64 0,.int .i64 1,.int .i64 0,.int .i64 0] 75)) #[.int .i64 1,.slice (some ⟨w.heap.size,0,none⟩) 1 1] 78).below b2;have r2:=Ro.new ((w.alloc (.cells #[.int .i64 2,.int .i64 0,.int .i64 1,.int .i64 0,.int .i64 0] 75)).alloc (.cells #[.int .i64 1,.slice (some ⟨w.heap.size,0,none⟩) 1 1] 78)) #[.string ⟨#[]⟩,.int .i64 2,.int .i64 0,.int .i64 0,.int .i64 0,.int .i64 0,.int .i64 0,.int .i64 0,.int .i64 2,.int .i64 2,.int .i64 0,.slice none 0 0,.slice (some ⟨w.heap.size+1,0,none⟩) 1 1,.int .i64 0,.string ⟨#[]⟩,.int .i64 1,.int .i64 0,.int .i64 0,.int .i64 0,.int .i64 0,.int .i64 0,.int .i64 0,.int .i64 0,.int .i64 0,.int .i64 0,.slice none 0 0,.slice none 0 0,.int .i64 0] 84;rw[e1] at r1
 rw[e2] at r2
 refine⟨.inr ⟨by simp[csP],by simp[csP,maxLen],w.heap.size+1+1,0,2,rfl,r2.lt,fun i c hi j u hu=> ?_⟩,fun x hx=> ?_⟩
 ·rw[Nat.zero_add,r2.cell,←Array.getElem?_toList]
  exact flat_at (f:=Cd.cells) (sz:=14) (l:=(csP (w.heap.size+1)).map Prod.fst) (fun _ _=>rfl) hi hu
 ·simp only[csP,List.mem_cons,List.not_mem_nil,or_false] at hx
  rcases hx with rfl|rfl
  ·refine⟨⟨[],Rw.nil _⟩,[(1,⟨some ⟨w.heap.size,0,none⟩,1,1⟩)],Rw.of_ro r1 _ rfl trc_len (by simp) (by simp[maxLen]) 1 1 rfl,rfl,fun t ht=> ?_⟩
   obtain rfl:=List.mem_singleton.1 ht
   exact⟨[⟨2,0,1,0,0⟩],Rw.of_ro r0 _ rfl efc_len (by simp) (by simp[maxLen]) 1 1 rfl⟩
  ·exact⟨⟨[],Rw.nil _⟩,[],Rw.nil _,rfl,fun t ht=>by cases ht⟩
set_option maxRecDepth 100000 in
set_option maxHeartbeats 4000000 in
theorem lpool(w:World):Calls Try.prog 9 #[] w fun e w' =>(∃v a,e= .returned v∧CsR w' v (csP a))∧Below w.heap.size w w':=by
 go_enter Try.func9,Try.ntmps9;go_wp2_with fail
 go_returns
 exact⟨⟨_,_,rfl,pool_rd w⟩,by go_grown⟩
set_option maxRecDepth 100000 in
set_option maxHeartbeats 4000000 in
theorem lchecks(v:Value)(cs:List (Cd×List (Int×Nat)))(s:Bs)(B:Bd)(t:Int)(s2:Bs)(X:Bd)(m:Nat)(w:World)(hc:CsR w v cs)(hci:CI (cs.map Prod.fst))(hl:Lt cs)(h:BdR w s B)(h2:BdR w s2 X)(hv:VB B)(ht:0≤t)(hn:B.ob.length≤210)(hX:ckB cs B t=X)(hN:ckN cs B t=m):Calls Try.prog 15 #[v,bv s B,.int .i64 t,bv s2 X,.int .i64 m] w fun e w' =>e= .returned (.bool true)∧Below w.heap.size w w':=by
 have HCS:=Lib.hid hc;have HCI:=Lib.hid hci;have HL:=Lib.hid hl;have HR:=Lib.hid h;have HR2:=Lib.hid h2;have HV:=Lib.hid hv;have HT:=Lib.hid ht;have HN:=Lib.hid hn;have HX:=Lib.hid hX;clear h h2 hv ht hn hc hci hl hX;go_enter Try.func15,Try.ntmps15
 go_upto_region 1 with fail
 change Code.wp Try.prog _ _ _ ((w.alloc (.cells (bcells s B) 34)).alloc (.cells (bcells s2 X) 34))
 obtain⟨wz,hwz⟩:∃W,W=((w.alloc (.cells (bcells s B) 34)).alloc (.cells (bcells s2 X) 34)):=⟨_,rfl⟩
 rw[←hwz];have b0:Below w.heap.size w (w.alloc (.cells (bcells s B) 34)):=by exact(Below.refl _ _).alloc (Nat.le_refl _) _
 have b1:Below (w.alloc (.cells (bcells s B) 34)).heap.size (w.alloc (.cells (bcells s B) 34)) wz:=by rw[hwz];exact(Below.refl _ _).alloc (Nat.le_refl _) _
 have HB:Hid (Below w.heap.size w wz):=Lib.hid (below_via b0 b1);have HXb:Hid (Bx wz (w.heap.size) s B):=Lib.hid ((Ro.new w (bcells s B) 34).below b1:Ro _ _ _ _);have HXx:Hid (Bx wz (w.heap.size+1) s2 X):=Lib.hid (by rw[show w.heap.size+1=(w.alloc (.cells (bcells s B) 34)).heap.size by simp];exact(by rw[hwz];exact(Ro.new (w.alloc (.cells (bcells s B) 34)) (bcells s2 X) 34)));have HC1:Hid (w.heap.size+2≤wz.heap.size):=Lib.hid (by rw[hwz];simp);clear hwz b0 b1;go_wp2_with (first|(refine wpList_load_bx _ rfl rfl HXb.out (by kernel_rfl) ?_))
 with_reducible refine(check_ok v cs s B t _ (HCS.out.below HB.out) HCI.out HL.out (HR.out.below HB.out) HV.out HT.out HN.out).mono ?_
 rintro e w1 ⟨sc,rfl,ho,hb⟩;have HC2:Hid (wz.heap.size≤w1.heap.size):=Lib.hid (hb.size);replace HB:=Lib.hid (below_via HB.out hb);replace HXb:=Lib.hid (HXb.out.below hb);replace HXx:=Lib.hid (HXx.out.below hb);have HOc:=Lib.hid ho;clear ho hb;rw[hN];go_wp2_with (first|(refine wpList_store_bh rfl _ _ rfl rfl rfl (heap_alloc_new _ _) rfl ?_))
 intro w2 hw0;have hbx:=boxed hw0.out
 obtain⟨nr,hn⟩:∃n,n=w1.heap.size:=⟨_,rfl⟩
 rw[←hn] at hbx ⊢
 have hb:=hbx.1;rw[hn] at hb
 clear hw0;replace HB:=Lib.hid (below_via HB.out hb);replace HXb:=Lib.hid (HXb.out.below hb);replace HXx:=Lib.hid (HXx.out.below hb);replace HOc:=Lib.hid (HOc.out.below hb);have HXr:Hid (Bx w2 nr sc ((ckB cs B t))):=Lib.hid hbx.2;have HC3:Hid (w1.heap.size≤nr∧nr<w2.heap.size):=Lib.hid (⟨by omega,hbx.2.lt⟩);clear hbx hn hb;have HO2:Hid (BdR w2 sc X):=Lib.hid (HX.out▸HOc.out.rd);rw[HX.out] at HXr
 have q0:((m:Int)==(m:Int))=true:=beq_self_eq_true _;clear HOc;go_wp2_with (first|(refine wpList_load_bx _ rfl rfl HXr.out (by kernel_rfl) ?_)|(refine wpList_load_bx _ rfl rfl HXx.out (by kernel_rfl) ?_))
 with_reducible refine(rsame sc s2 X _ HO2.out (HR2.out.below HB.out)).mono ?_
 rintro e w3 ⟨rfl,hb⟩;have HC4:Hid (w2.heap.size≤w3.heap.size):=Lib.hid (hb.size);replace HB:=Lib.hid (below_via HB.out hb);replace HXb:=Lib.hid (HXb.out.below hb);replace HXx:=Lib.hid (HXx.out.below hb);replace HXr:=Lib.hid (HXr.out.below hb);replace HO2:=Lib.hid (HO2.out.below hb);clear hb;go_wp2_with fail
 go_returns
 exact⟨rfl,HB.out⟩
end Go.Proofs.Ytpbepnpnpopmfaa
