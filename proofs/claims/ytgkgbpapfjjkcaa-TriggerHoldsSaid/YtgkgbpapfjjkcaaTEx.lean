/- The cards and the board of the chapter's examples. -/
import Derived.Test.YtgkgbpapfjjkcaaTMv
import Derived.Test.YtgkgbpapfjjkcaaTNw
import Derived.Test.YtgkgbpapfjjkcaaTOg
import Derived.Deep.DeepCutAuto
import Derived.LoopTactic
import Derived.Deep.MidRow
namespace Go.Proofs.Ytgkgbpapfjjkcaa
open Go.RowKit Plain
set_option linter.unusedVariables false
set_option linter.unusedSimpArgs false

theorem Rw.of_ro{α:Type}{f:α→List Value}{sz:Nat}{W:World}{P:Nat}{C:Array Value}{t:TypeId}(h:Ro W P C t)(l:List α)(hC:C.toList=l.flatMap f)(hs:∀x∈l,(f x).length=sz)(h0:l≠[])(hm:l.length≤maxLen)(n cap:Nat)(hn:n=l.length):Rw f sz W (.slice (some ⟨P,0,none⟩) n cap) l:=by
 subst hn;exact .inr ⟨h0,hm,P,0,cap,rfl,h.lt,fun i x hi j u hu=>by rw[Nat.zero_add,h.cell,←Array.getElem?_toList,hC];exact flat_at hs hi hu⟩
/-- the cards of the examples -/
def PoR(W:World)(v:Value)(cs:List (Cd×List (Int×Nat))):Prop:=CsR W v cs∧Lt cs∧whens (cardX cs 0)=[1,3]
theorem PoR.cs{W:World}{v:Value}{cs:List (Cd×List (Int×Nat))}(h:PoR W v cs):CsR W v cs:=h.1
theorem PoR.lt{W:World}{v:Value}{cs:List (Cd×List (Int×Nat))}(h:PoR W v cs):Lt cs:=h.2.1
theorem PoR.wh{W:World}{v:Value}{cs:List (Cd×List (Int×Nat))}(h:PoR W v cs):whens (cardX cs 0)=[1,3]:=h.2.2
theorem pool_rd(w:World):PoR ((((w.alloc (.cells #[.int .i64 2,.int .i64 0,.int .i64 1,.int .i64 0,.int .i64 0] 104)).alloc (.cells #[.int .i64 3,.int .i64 0,.int .i64 1,.int .i64 0,.int .i64 0] 104)).alloc (.cells #[.int .i64 1,.slice (some ⟨w.heap.size,0,none⟩) 1 1,.int .i64 3,.slice (some ⟨w.heap.size+1,0,none⟩) 1 1] 75)).alloc (.cells #[.string ⟨#[]⟩,.int .i64 2,.int .i64 0,.int .i64 0,.int .i64 0,.int .i64 0,.int .i64 0,.int .i64 0,.int .i64 0,.int .i64 0,.int .i64 0,.slice none 0 0,.slice (some ⟨w.heap.size+1+1,0,none⟩) 2 2,.int .i64 0] 73)) (.slice (some ⟨w.heap.size+1+1+1,0,none⟩) 1 1) [(({noCd with kd:=2,ta:=some ⟨w.heap.size+1+1,0,none⟩,tl:=2,tc:=2}:Cd),[(1,1),(3,1)])]:=by
 have b1:Below (w.alloc (.cells #[.int .i64 2,.int .i64 0,.int .i64 1,.int .i64 0,.int .i64 0] 104)).heap.size (w.alloc (.cells #[.int .i64 2,.int .i64 0,.int .i64 1,.int .i64 0,.int .i64 0] 104)) ((w.alloc (.cells #[.int .i64 2,.int .i64 0,.int .i64 1,.int .i64 0,.int .i64 0] 104)).alloc (.cells #[.int .i64 3,.int .i64 0,.int .i64 1,.int .i64 0,.int .i64 0] 104)):=(Below.refl _ _).alloc (Nat.le_refl _) _;have b2:Below ((w.alloc (.cells #[.int .i64 2,.int .i64 0,.int .i64 1,.int .i64 0,.int .i64 0] 104)).alloc (.cells #[.int .i64 3,.int .i64 0,.int .i64 1,.int .i64 0,.int .i64 0] 104)).heap.size ((w.alloc (.cells #[.int .i64 2,.int .i64 0,.int .i64 1,.int .i64 0,.int .i64 0] 104)).alloc (.cells #[.int .i64 3,.int .i64 0,.int .i64 1,.int .i64 0,.int .i64 0] 104)) (((w.alloc (.cells #[.int .i64 2,.int .i64 0,.int .i64 1,.int .i64 0,.int .i64 0] 104)).alloc (.cells #[.int .i64 3,.int .i64 0,.int .i64 1,.int .i64 0,.int .i64 0] 104)).alloc (.cells #[.int .i64 1,.slice (some ⟨w.heap.size,0,none⟩) 1 1,.int .i64 3,.slice (some ⟨w.heap.size+1,0,none⟩) 1 1] 75)):=(Below.refl _ _).alloc (Nat.le_refl _) _;have b3:Below (((w.alloc (.cells #[.int .i64 2,.int .i64 0,.int .i64 1,.int .i64 0,.int .i64 0] 104)).alloc (.cells #[.int .i64 3,.int .i64 0,.int .i64 1,.int .i64 0,.int .i64 0] 104)).alloc (.cells #[.int .i64 1,.slice (some ⟨w.heap.size,0,none⟩) 1 1,.int .i64 3,.slice (some ⟨w.heap.size+1,0,none⟩) 1 1] 75)).heap.size (((w.alloc (.cells #[.int .i64 2,.int .i64 0,.int .i64 1,.int .i64 0,.int .i64 0] 104)).alloc (.cells #[.int .i64 3,.int .i64 0,.int .i64 1,.int .i64 0,.int .i64 0] 104)).alloc (.cells #[.int .i64 1,.slice (some ⟨w.heap.size,0,none⟩) 1 1,.int .i64 3,.slice (some ⟨w.heap.size+1,0,none⟩) 1 1] 75)) ((((w.alloc (.cells #[.int .i64 2,.int .i64 0,.int .i64 1,.int .i64 0,.int .i64 0] 104)).alloc (.cells #[.int .i64 3,.int .i64 0,.int .i64 1,.int .i64 0,.int .i64 0] 104)).alloc (.cells #[.int .i64 1,.slice (some ⟨w.heap.size,0,none⟩) 1 1,.int .i64 3,.slice (some ⟨w.heap.size+1,0,none⟩) 1 1] 75)).alloc (.cells #[.string ⟨#[]⟩,.int .i64 2,.int .i64 0,.int .i64 0,.int .i64 0,.int .i64 0,.int .i64 0,.int .i64 0,.int .i64 0,.int .i64 0,.int .i64 0,.slice none 0 0,.slice (some ⟨w.heap.size+1+1,0,none⟩) 2 2,.int .i64 0] 73)):=(Below.refl _ _).alloc (Nat.le_refl _) _;have e1:(w.alloc (.cells #[.int .i64 2,.int .i64 0,.int .i64 1,.int .i64 0,.int .i64 0] 104)).heap.size=w.heap.size+1:=by simp
 have e2:((w.alloc (.cells #[.int .i64 2,.int .i64 0,.int .i64 1,.int .i64 0,.int .i64 0] 104)).alloc (.cells #[.int .i64 3,.int .i64 0,.int .i64 1,.int .i64 0,.int .i64 0] 104)).heap.size=w.heap.size+1+1:=by simp
 have e3:(((w.alloc (.cells #[.int .i64 2,.int .i64 0,.int .i64 1,.int .i64 0,.int .i64 0] 104)).alloc (.cells #[.int .i64 3,.int .i64 0,.int .i64 1,.int .i64 0,.int .i64 0] 104)).alloc (.cells #[.int .i64 1,.slice (some ⟨w.heap.size,0,none⟩) 1 1,.int .i64 3,.slice (some ⟨w.heap.size+1,0,none⟩) 1 1] 75)).heap.size=w.heap.size+1+1+1:=by simp
 have r0:=(((Ro.new w #[.int .i64 2,.int .i64 0,.int .i64 1,.int .i64 0,.int .i64 0] 104).below b1).below b2).below b3;have r1:=((Ro.new (w.alloc (.cells #[.int .i64 2,.int .i64 0,.int .i64 1,.int .i64 0,.int .i64 0] 104)) #[.int .i64 3,.int .i64 0,.int .i64 1,.int .i64 0,.int .i64 0] 104).below b2).below b3;have r2:=(Ro.new ((w.alloc (.cells #[.int .i64 2,.int .i64 0,.int .i64 1,.int .i64 0,.int .i64 0] 104)).alloc (.cells #[.int .i64 3,.int .i64 0,.int .i64 1,.int .i64 0,.int .i64 0] 104)) #[.int .i64 1,.slice (some ⟨w.heap.size,0,none⟩) 1 1,.int .i64 3,.slice (some ⟨w.heap.size+1,0,none⟩) 1 1] 75).below b3;have r3:=Ro.new (((w.alloc (.cells #[.int .i64 2,.int .i64 0,.int .i64 1,.int .i64 0,.int .i64 0] 104)).alloc (.cells #[.int .i64 3,.int .i64 0,.int .i64 1,.int .i64 0,.int .i64 0] 104)).alloc (.cells #[.int .i64 1,.slice (some ⟨w.heap.size,0,none⟩) 1 1,.int .i64 3,.slice (some ⟨w.heap.size+1,0,none⟩) 1 1] 75)) #[.string ⟨#[]⟩,.int .i64 2,.int .i64 0,.int .i64 0,.int .i64 0,.int .i64 0,.int .i64 0,.int .i64 0,.int .i64 0,.int .i64 0,.int .i64 0,.slice none 0 0,.slice (some ⟨w.heap.size+1+1,0,none⟩) 2 2,.int .i64 0] 73;rw[e1] at r1
 rw[e2] at r2
 rw[e3] at r3
 refine⟨⟨?_,fun x hx=> ?_⟩,⟨by simp,fun x hx=> ?_⟩,rfl⟩
 ·refine .inr ⟨by simp,by simp[maxLen],w.heap.size+1+1+1,0,1,rfl,r3.lt,fun i c hi j u hu=> ?_⟩
  have hi0:i=0:=by have:=(List.getElem?_eq_some_iff.1 hi).1;simp at this;omega
  subst hi0;simp at hi
  subst hi;rw[show 0+(0*14+j)=j by omega,r3.cell j,←Array.getElem?_toList];exact hu
 ·have hx:=List.mem_singleton.1 hx
  subst hx
  refine⟨⟨[],Rw.nil _⟩,[(1,⟨some ⟨w.heap.size,0,none⟩,1,1⟩),(3,⟨some ⟨w.heap.size+1,0,none⟩,1,1⟩)],Rw.of_ro r2 _ rfl trc_len (by simp) (by simp[maxLen]) 2 2 rfl,rfl,fun t ht=> ?_⟩
  simp at ht
  rcases ht with rfl|rfl
  ·exact⟨[⟨2,0,1,0,0⟩],Rw.of_ro r0 _ rfl efc_len (by simp) (by simp[maxLen]) 1 1 rfl⟩
  ·exact⟨[⟨3,0,1,0,0⟩],Rw.of_ro r1 _ rfl efc_len (by simp) (by simp[maxLen]) 1 1 rfl⟩
 ·have hx:=List.mem_singleton.1 hx
  subst hx
  exact⟨Nat.zero_le _,by simp,fun t ht=>by simp at ht;rcases ht with rfl|rfl<;>simp⟩
set_option maxRecDepth 100000 in
set_option maxHeartbeats 4000000 in
theorem lpool(w:World):Calls Try.prog 25 #[] w fun e w' =>(∃v cs,e= .returned v∧PoR w' v cs)∧Below w.heap.size w w':=by
 go_enter Try.func25,Try.ntmps25;go_wp2_with fail
 go_returns
 exact⟨⟨_,_,rfl,pool_rd w⟩,by go_grown⟩
namespace Plain
def exB0:Bd:=newB 20 [0,0] [0]
def exX0:Ob:=mkO 0 0 0
def exX1:Ob:=mkO 0 1 0
def exX2:Ob:=mkO 1 2 0
def exB1:Bd:=mvB exB0 0 exX0 0 2
def exB2:Bd:=mvB exB1 1 exX1 0 2
def exB3:Bd:=mvB exB2 2 exX2 1 3
def exB:Bd:={exB3 with ac:=1}
theorem exZs(B:Bd)(h:∀p:Fin 2,∀z:Fin 4,((B.seat p).zs z).length≤1000):∀(p z:Nat),((B.seat p).zs z).length≤1000:=by
 intro p z;have e1:B.seat p=B.seat (if p=0 then 0 else 1):=by unfold Bd.seat;by_cases hp:p=0<;>simp[hp]
 have e2:∀S:Se,S.zs z=S.zs (if z<3 then z else 3):=fun S=>by
  unfold Se.zs
  by_cases h3:z<3
  ·rw[if_pos h3]
  ·rw[if_neg h3,if_neg (by omega),if_neg (by omega),if_neg (by omega)]
   rfl
 rw[e1,e2];exact h ⟨if p=0 then 0 else 1,by split<;>omega⟩ ⟨if z<3 then z else 3,by split<;>omega⟩
end Plain
theorem exB0_sm:exB0.Sm:=⟨exZs _ (by decide),by decide,by decide,by decide,by decide,by decide⟩
theorem exB0_tl:exB0.Tl:=⟨by intro x hx;exact absurd hx (by simp[show exB0.st=[] from rfl]),by intro x hx;exact absurd hx (by simp[show exB0.qu=[] from rfl])⟩
theorem exB1_sm:exB1.Sm:=⟨exZs _ (by decide),by decide,by decide,by decide,by decide,by decide⟩
theorem exB1_tl:exB1.Tl:=⟨by intro x hx;exact absurd hx (by simp[show exB1.st=[] from rfl]),by intro x hx;exact absurd hx (by simp[show exB1.qu=[] from rfl])⟩
theorem exB2_sm:exB2.Sm:=⟨exZs _ (by decide),by decide,by decide,by decide,by decide,by decide⟩
theorem exB2_tl:exB2.Tl:=⟨by intro x hx;exact absurd hx (by simp[show exB2.st=[] from rfl]),by intro x hx;exact absurd hx (by simp[show exB2.qu=[] from rfl])⟩
theorem exB3_sm:exB3.Sm:=⟨exZs _ (by decide),by decide,by decide,by decide,by decide,by decide⟩
theorem exB3_tl:exB3.Tl:=⟨by intro x hx;exact absurd hx (by simp[show exB3.st=[] from rfl]),by intro x hx;exact absurd hx (by simp[show exB3.qu=[] from rfl])⟩
theorem exF(L:List Ob)(k:Nat)(id:Int)(h:∀j:Fin k,∀q∈L[j.1]?,q.id≠id):∀(j:Nat) (q:Ob),j<k→L[j]? =some q→q.id≠id:=fun j q hj hq=>h ⟨j,hj⟩ q (by rw[hq];rfl)
theorem exB_ob:exB.ob=[rsO exX0 2,rsO exX1 2,rsO exX2 3]:=by kernel_rfl
theorem exB_vb:VB exB:=by
 refine⟨by unfold vNum;decide+kernel,by decide+kernel,by decide+kernel,⟨by decide+kernel,by decide+kernel⟩,⟨by decide+kernel,fun i o h=> ?_,by decide+kernel⟩,⟨by decide+kernel,?_,by decide+kernel,by decide+kernel,?_⟩⟩
 ·have h2:=h
  rw[exB_ob] at h2
  match i,h2 with
  |0,h2=>
   simp at h2
   subst h2
   exact⟨by decide+kernel,fun j q hj=>by omega,by decide+kernel,fun x hx=>by rw[show cst exB.st=[] by decide+kernel] at hx;cases hx⟩
  |1,h2=>
   simp at h2
   subst h2
   refine⟨by decide+kernel,fun j q hj hq=> ?_,by decide+kernel,fun x hx=>by rw[show cst exB.st=[] by decide+kernel] at hx;cases hx⟩
   obtain rfl:j=0:=by omega
   rw[exB_ob] at hq
   simp at hq
   subst hq
   decide+kernel
  |2,h2=>
   simp at h2
   subst h2
   refine⟨by decide+kernel,fun j q hj hq=> ?_,by decide+kernel,fun x hx=>by rw[show cst exB.st=[] by decide+kernel] at hx;cases hx⟩
   obtain rfl:j=1:=by omega
   rw[exB_ob] at hq
   simp at hq
   subst hq
   decide+kernel
  |(n+3),h2=>simp at h2
 ·intro a ha
  rw[show exB.att=[] by decide+kernel] at ha
  cases ha
 ·intro a ha
  rw[show exB.bl=[] by decide+kernel] at ha
  cases ha
theorem ex_mv0(s:Bs)(w:World)(h:BdR w s exB0):Calls Try.prog 50 #[bv s exB0,.int .i64 1,.int .i64 2] w (CpA w exB1):=rmove2 s exB0 0 exX0 0 w h exB0_sm exB0_tl (by kernel_rfl) (exF _ _ _ (by decide+kernel)) (by omega) rfl
theorem ex_mv1(s:Bs)(w:World)(h:BdR w s exB1):Calls Try.prog 50 #[bv s exB1,.int .i64 2,.int .i64 2] w (CpA w exB2):=rmove2 s exB1 1 exX1 0 w h exB1_sm exB1_tl (by kernel_rfl) (exF _ _ _ (by decide+kernel)) (by omega) rfl
theorem ex_mv2(s:Bs)(w:World)(h:BdR w s exB2):Calls Try.prog 50 #[bv s exB2,.int .i64 3,.int .i64 3] w (CpA w exB3):=rmove3 s exB2 2 exX2 1 w h exB2_sm exB2_tl (by kernel_rfl) (exF _ _ _ (by decide+kernel)) (by omega) rfl
set_option maxRecDepth 100000 in
set_option maxHeartbeats 4000000 in
theorem lexample(w:World):Calls Try.prog 24 #[] w (CpA w exB):=by
 go_enter Try.func24,Try.ntmps24
 go_upto_region 1 with fail
 change Code.wp Try.prog _ _ _ (w.alloc (.cells (bcells nilS zeroB) 34))
 obtain⟨wz,hwz⟩:∃W,W=(w.alloc (.cells (bcells nilS zeroB) 34)):=⟨_,rfl⟩
 rw[←hwz];have b0:Below w.heap.size w wz:=by rw[hwz];exact(Below.refl _ _).alloc (Nat.le_refl _) _
 have HB:Hid (Below w.heap.size w wz):=Lib.hid b0;have HXz:Hid (Bx wz (w.heap.size) nilS zeroB):=Lib.hid (by rw[hwz];exact(Ro.new w (bcells nilS zeroB) 34));have HC1:Hid (w.heap.size+1≤wz.heap.size):=Lib.hid (by rw[hwz];simp);clear hwz b0;go_wp2_with fail
 obtain⟨we,hwe⟩:∃W,W=((wz.alloc (.cells #[.int .i64 0,.int .i64 0] 3)).alloc (.cells #[.int .i64 0] 3)):=⟨_,rfl⟩
 rw[←hwe];have b1:Below wz.heap.size wz (wz.alloc (.cells #[.int .i64 0,.int .i64 0] 3)):=(Below.refl _ _).alloc (Nat.le_refl _) _;have b2:Below (wz.alloc (.cells #[.int .i64 0,.int .i64 0] 3)).heap.size (wz.alloc (.cells #[.int .i64 0,.int .i64 0] 3)) we:=by rw[hwe];exact(Below.refl _ _).alloc (Nat.le_refl _) _
 have hb:=below_via b1 b2;have r0:Rw ic 1 we (.slice (some ⟨wz.heap.size,0,none⟩) 2 2) [0,0]:=Rw.of_ro ((Ro.new wz #[.int .i64 0,.int .i64 0] 3).below b2) [0,0] rfl ic_len (by simp) (by simp[maxLen]) 2 2 rfl
 have r1:Rw ic 1 we (.slice (some ⟨wz.heap.size+1,0,none⟩) 1 1) [0]:=by
  have h1:=Ro.new (wz.alloc (.cells #[.int .i64 0,.int .i64 0] 3)) #[.int .i64 0] 3;rw[show(wz.alloc (.cells #[.int .i64 0,.int .i64 0] 3)).heap.size=wz.heap.size+1 by simp,←hwe] at h1
  exact Rw.of_ro h1 [0] rfl ic_len (by simp) (by simp[maxLen]) 1 1 rfl
 have HR0:=Lib.hid r0;have HR1:=Lib.hid r1;replace HB:=Lib.hid (below_via HB.out hb);replace HXz:=Lib.hid (HXz.out.below hb);have HC2:Hid (wz.heap.size≤we.heap.size):=Lib.hid (hb.size);clear hwe b1 b2 hb r0 r1;with_reducible refine(rnew 20 [0,0] [0] _ _ _ HR0.out HR1.out (by omega) (by decide) (by decide) (by decide)).mono ?_
 rintro e w1 ⟨sb,rfl,ho,hb⟩;have HC3:Hid (we.heap.size≤w1.heap.size):=Lib.hid (hb.size);replace HB:=Lib.hid (below_via HB.out hb);replace HXz:=Lib.hid (HXz.out.below hb);have HOb:=Lib.hid ho;clear ho hb;go_wp2_with (first|(refine wpList_store_bh rfl _ _ rfl rfl rfl (heap_alloc_new _ _) rfl ?_))
 intro w2 hw0;have hbx:=boxed hw0.out
 obtain⟨nb,hn⟩:∃n,n=w1.heap.size:=⟨_,rfl⟩
 rw[←hn] at hbx ⊢
 have hb:=hbx.1;rw[hn] at hb
 clear hw0;replace HB:=Lib.hid (below_via HB.out hb);replace HXz:=Lib.hid (HXz.out.below hb);replace HOb:=Lib.hid (HOb.out.below hb);have HXb:Hid (Bx w2 nb sb (exB0)):=Lib.hid hbx.2;have HC4:Hid (w1.heap.size≤nb∧nb<w2.heap.size):=Lib.hid (⟨by omega,hbx.2.lt⟩);clear hbx hn hb;go_wp2_with (first|(refine wpList_load_bx _ rfl rfl HXb.out (by kernel_rfl) ?_))
 with_reducible refine(ex_mv0 sb _ HOb.out.rd).mono ?_
 rintro e w3 ⟨sc,rfl,ho,hb⟩;have HC5:Hid (w2.heap.size≤w3.heap.size):=Lib.hid (hb.size);replace HB:=Lib.hid (below_via HB.out hb);replace HXz:=Lib.hid (HXz.out.below hb);replace HXb:=Lib.hid (HXb.out.below hb);replace HOb:=Lib.hid (HOb.out.below hb);have HOc:=Lib.hid ho;clear ho hb;go_wp2_with fail
 with_reducible refine(ex_mv1 sc _ HOc.out.rd).mono ?_
 rintro e w4 ⟨sd,rfl,ho,hb⟩;have HC6:Hid (w3.heap.size≤w4.heap.size):=Lib.hid (hb.size);replace HB:=Lib.hid (below_via HB.out hb);replace HXz:=Lib.hid (HXz.out.below hb);replace HXb:=Lib.hid (HXb.out.below hb);replace HOb:=Lib.hid (HOb.out.below hb);replace HOc:=Lib.hid (HOc.out.below hb);have HOd:=Lib.hid ho;clear ho hb;go_wp2_with fail
 with_reducible refine(ex_mv2 sd _ HOd.out.rd).mono ?_
 rintro e w5 ⟨se,rfl,ho,hb⟩;have HC7:Hid (w4.heap.size≤w5.heap.size):=Lib.hid (hb.size);replace HB:=Lib.hid (below_via HB.out hb);replace HXz:=Lib.hid (HXz.out.below hb);replace HXb:=Lib.hid (HXb.out.below hb);replace HOb:=Lib.hid (HOb.out.below hb);replace HOc:=Lib.hid (HOc.out.below hb);replace HOd:=Lib.hid (HOd.out.below hb);have HOe:=Lib.hid ho;clear ho hb;go_wp2_with (first|(refine wpList_store_bh (s:=se) (B:=exB3) rfl _ _ rfl rfl rfl HXb.out rfl ?_))
 intro w6 hw0;have hon:Onl [nb] w5 w6:=by rw[hw0.out];exact Onl.setRow (Onl.refl _ _) (.inl (by simp)) _
 have hx:Bx w6 (nb) se (exB3):=by rw[hw0.out];exact Bx.row HXb.out _ _
 clear hw0;have hlo:w.heap.size≤nb:=by(have o0:=HC1.out;have o1:=HC2.out;have o2:=HC3.out;have o3:=HC4.out;have o4:=HC5.out;have o5:=HC6.out;have o6:=HC7.out;have x0:=HXz.out.lt;have x1:=HXb.out.lt;omega)
 have hls:w.heap.size≤w5.heap.size:=HB.out.size;replace HB:=Lib.hid (belowOnl HB.out hon (by simp only[List.mem_singleton,forall_eq];exact hlo) hls);replace HXz:=Lib.hid (HXz.out.onl hon (by simp only[List.mem_singleton];(have o0:=HC1.out;have o1:=HC2.out;have o2:=HC3.out;have o3:=HC4.out;have o4:=HC5.out;have o5:=HC6.out;have o6:=HC7.out;have x0:=HXz.out.lt;have x1:=HXb.out.lt;omega)));replace HOb:=Lib.hid (HOb.out.onlB hon HXb.out);replace HOc:=Lib.hid (HOc.out.onlB hon HXb.out);replace HOd:=Lib.hid (HOd.out.onlB hon HXb.out);replace HOe:=Lib.hid (HOe.out.onlB hon HXb.out);have HC8:Hid (w5.heap.size≤w6.heap.size):=Lib.hid (hon.size);clear hlo hls;replace HXb:=Lib.hid hx;clear hx hon;have c34:w6.cell? ⟨nb,34,none⟩=some (.int .i64 exB3.ac):=HXb.out.cell 34;have f34:w6.frozen? ⟨nb,34,none⟩=false:=HXb.out.free 34
 go_upto_region 4 with fail
 obtain⟨w7,hw⟩:∃X,X=w6.setCell ⟨nb,34,none⟩ (.int .i64 1):=⟨_,rfl⟩
 rw[←hw];have hon:Onl [nb] w6 w7:=by rw[hw];exact Onl.setCell (Onl.refl _ _) (.inl (by simp)) _
 have hx:Bx w7 (nb) se (exB):=by rw[hw];exact HXb.out.put 34 _ rfl
 clear hw c34 f34;have hlo:w.heap.size≤nb:=by(have o0:=HC1.out;have o1:=HC2.out;have o2:=HC3.out;have o3:=HC4.out;have o4:=HC5.out;have o5:=HC6.out;have o6:=HC7.out;have o7:=HC8.out;have x0:=HXz.out.lt;have x1:=HXb.out.lt;omega)
 have hls:w.heap.size≤w6.heap.size:=HB.out.size;replace HB:=Lib.hid (belowOnl HB.out hon (by simp only[List.mem_singleton,forall_eq];exact hlo) hls);replace HXz:=Lib.hid (HXz.out.onl hon (by simp only[List.mem_singleton];(have o0:=HC1.out;have o1:=HC2.out;have o2:=HC3.out;have o3:=HC4.out;have o4:=HC5.out;have o5:=HC6.out;have o6:=HC7.out;have o7:=HC8.out;have x0:=HXz.out.lt;have x1:=HXb.out.lt;omega)));replace HOb:=Lib.hid (HOb.out.onlB hon HXb.out);replace HOc:=Lib.hid (HOc.out.onlB hon HXb.out);replace HOd:=Lib.hid (HOd.out.onlB hon HXb.out);replace HOe:=Lib.hid (HOe.out.onlB hon HXb.out);have HC9:Hid (w6.heap.size≤w7.heap.size):=Lib.hid (hon.size);clear hlo hls;replace HXb:=Lib.hid hx;clear hx hon;replace HOe:Hid (BdO _ _ w7 se exB):=Lib.hid ⟨HOe.out.ob,HOe.out.il,HOe.out.nd,HOe.out.st,HOe.out.qu,HOe.out.ns,HOe.out.bl⟩;clear HOb HOc HOd;go_wp2_with (first|(refine wpList_load_bx _ rfl rfl HXb.out (by kernel_rfl) ?_)|(refine wpList_store_bh (s:=se) (B:=exB) rfl _ _ rfl rfl rfl HXz.out rfl ?_;intro w8 hw9))
 have hg9:Bx w8 (w.heap.size) se (exB):=by rw[hw9.out];exact Bx.row HXz.out _ _
 have ho9:Onl [w.heap.size] w7 w8:=by rw[hw9.out];exact Onl.setRow (Onl.refl _ _) (.inl (by simp)) _
 have hlo:w.heap.size≤w.heap.size:=by(have o0:=HC1.out;have o1:=HC2.out;have o2:=HC3.out;have o3:=HC4.out;have o4:=HC5.out;have o5:=HC6.out;have o6:=HC7.out;have o7:=HC8.out;have o8:=HC9.out;have x0:=HXz.out.lt;have x1:=HXb.out.lt;omega)
 have hb9:Below w.heap.size w w8:=belowOnl HB.out ho9 (by simp only[List.mem_singleton,forall_eq];exact hlo) HB.out.size;have HG9:=Lib.hid hg9;have HPOST:Hid (CpA w (exB) (.returned (bv se (exB))) w8):=Lib.hid ⟨_,rfl,(HOe.out.onlB ho9 HXz.out).mono (by(have o0:=HC1.out;have o1:=HC2.out;have o2:=HC3.out;have o3:=HC4.out;have o4:=HC5.out;have o5:=HC6.out;have o6:=HC7.out;have o7:=HC8.out;have o8:=HC9.out;have x0:=HXz.out.lt;have x1:=HXb.out.lt;omega)) (by have h9:=ho9.size;(have o0:=HC1.out;have o1:=HC2.out;have o2:=HC3.out;have o3:=HC4.out;have o4:=HC5.out;have o5:=HC6.out;have o6:=HC7.out;have o7:=HC8.out;have o8:=HC9.out;have x0:=HXz.out.lt;have x1:=HXb.out.lt;omega)),hb9⟩;clear hw9 hg9 ho9 hb9 hlo;go_wp2_with fail
 exact bodyPost_ret (v:=bv se (exB)) (results_b0 Try.results24 _ _ HG9.out rfl) rfl HPOST.out
end Go.Proofs.Ytgkgbpapfjjkcaa
