/- A store into an object of a board of our own. The boards of the chapter's examples. The cards of the chapter's examples; the law's checks. -/
import Derived.Test.YtpbepnpnpopmfaaGreatTTk
import Derived.Deep.DeepCutAuto
import Derived.LoopTactic
import Derived.Deep.MidRow
import Derived.Test.YtpbepnpnpopmfaaGreatUCh
import Derived.Test.YtpbepnpnpopmfaaGreatTNw
import Derived.Test.YtpbepnpnpopmfaaGreatBSa
open Go.RowKit Go.Proofs.YtpbepnpnpopmfaaGreat
set_option maxRecDepth 100000
set_option maxHeartbeats 4000000
namespace Go.Proofs.YtpbepnpnpopmfaaGreat
open Plain
set_option linter.unusedVariables false
set_option linter.unusedSimpArgs false

theorem BdO.cellOb{lo hi:Nat}{w:World}{s:Bs}{B:Bd}{g n c:Nat}(h:BdO lo hi w s B)(hs:s.ob.v= .slice (some ⟨g,0,none⟩) n c){k j:Nat}{x:Ob}{u:Value}(hk:B.ob[k]? =some x)(hj:(oc x)[j]? =some u)(q:Nat)(hq:q=k*12+j):w.cell? ⟨g,q,none⟩=some u/\w.frozen? ⟨g,q,none⟩=false:=by
 have h1:=h.ob;rw[hs] at h1
 exact h1.at oc_len hk hj q hq
theorem BdO.setC{lo hi:Nat}{w:World}{s:Bs}{B:Bd}{g n c:Nat}(h:BdO lo hi w s B)(hs:s.ob.v= .slice (some ⟨g,0,none⟩) n c){k j:Nat}{x x':Ob}{u:Value}(hk:B.ob[k]? =some x)(hj:j<12)(hx:oc x' =(oc x).set j u)(q:Nat)(hq:q=k*12+j):BdO lo hi (w.setCell ⟨g,q,none⟩ u) s {B with ob:=B.ob.set k x'}:=by
 have hob:=h.ob;rw[hs] at hob
 have hg:∃cur,w.heap[g]? =some (.cells cur 47 (0,0)):=by obtain⟨_,_,c,hc⟩:=hob.1.typ g rfl;exact⟨c,hc⟩
 have hon:Onl [g] w (w.setCell ⟨g,q,none⟩ u):=Onl.setCell (Onl.refl _ _) (.inl (by simp)) _;have hr:=grown_onl hon;have ht:∀b,(some g:Option Nat)=some b->∃cur,w.heap[b]? =some (.cells cur 47 (0,0)):=fun b hb=>by cases hb;exact hg
 have hi2:∀{v:Value} {L:List It},ItO lo hi w v L->ItO lo hi (w.setCell ⟨g,q,none⟩ u) v L:=fun h=>by
  obtain⟨l',g1,g2,g3⟩:=h
  exact⟨l',g1,g2.other hr ht (by decide) (Nat.le_refl _),fun x hx=>(g3 x hx).map (fun h=>h.other hr ht (by decide) (Nat.le_refl _))⟩
 refine⟨?_,fun j hj=>(h.il j hj).other hr ht (by decide) (Nat.le_refl _),h.nd,hi2 h.st,hi2 h.qu,h.ns,h.bl.other hr ht (by decide) (Nat.le_refl _)⟩
 show Ox oc 12 47 lo hi _ s.ob.v (B.ob.set k x')
 rw[hs];exact hob.setc oc_len hk hj hx q hq
theorem zal(W:World):W.alloc (.cells #[.slice none 0 0,.int .i64 0,.int .i64 0,.int .i64 0,.int .i64 0,.int .i64 0,.slice none 0 0,.slice none 0 0,.slice none 0 0,.slice none 0 0,.bool false,.bool false,.bool false,.int .i64 0,.int .i64 0,.int .i64 0,.int .i64 0,.int .i64 0,.int .i64 0,.int .i64 0,.slice none 0 0,.slice none 0 0,.slice none 0 0,.slice none 0 0,.bool false,.bool false,.bool false,.int .i64 0,.int .i64 0,.slice none 0 0,.slice none 0 0,.slice none 0 0,.slice none 0 0,.int .i64 0,.int .i64 0,.int .i64 0,.int .i64 0,.int .i64 0] 34)=W.alloc (.cells (bcells nilS zeroB) 34):=rfl
end Go.Proofs.YtpbepnpnpopmfaaGreat
namespace Go.Proofs.YtpbepnpnpopmfaaGreat
open Plain
set_option linter.unusedVariables false
set_option linter.unusedSimpArgs false

theorem vb_of{B:Bd}(hn:vNum B)(h0:seB B.s0=true)(h1:seB B.s1=true)(hst:B.st=[])(hqu:B.qu=[])(hatt:B.att=[])(hbl:B.bl=[])(hnd:(B.prs.map Prod.fst).Nodup)(hob:B.ob.all (fun o=>vO o&&decide ((o.id,o.ow)∈B.prs))=true)(hr:(B.ob.map Ob.id).Pairwise (·< ·))(hl:B.prs.length=B.ob.length):VB B:=by
 refine⟨hn,h0,h1,⟨by rw[hst];rfl,by rw[hqu];rfl⟩,⟨hnd,fun i o h=> ?_,hl⟩,⟨by rw[hatt];exact List.nodup_nil,fun a ha=>(by rw[hatt] at ha;cases ha),by rw[hbl];exact List.nodup_nil,by rw[hbl];exact List.nodup_nil,fun x hx=>(by rw[hbl] at hx;cases hx)⟩⟩
 have h2:=List.all_eq_true.1 hob o (List.mem_of_getElem? h);simp only[Bool.and_eq_true,decide_eq_true_eq] at h2
 refine⟨h2.1,fun j q hj hq=> ?_,h2.2,fun x hx=>(by rw[hst] at hx;cases hx)⟩
 have e1:(B.ob.map Ob.id)[j]? =some q.id:=by rw[List.getElem?_map,hq];rfl
 have e2:(B.ob.map Ob.id)[i]? =some o.id:=by rw[List.getElem?_map,h];rfl
 obtain⟨l1,v1⟩:=List.getElem?_eq_some_iff.1 e1
 obtain⟨l2,v2⟩:=List.getElem?_eq_some_iff.1 e2
 have:=List.pairwise_iff_getElem.1 hr j i l1 l2 (by omega)
 rwa [v1,v2] at this
def Plain.daO(x:Ob)(n:Int):Ob:={x with da:=n}
def Plain.dmO(x:Ob):Ob:={x with dm:=true}
def Plain.setB(B:Bd)(k:Nat)(x:Ob):Bd:={B with ob:=B.ob.set k x}
def Plain.kB0:Bd:=newB 20 [0,0] []
def Plain.kB1:Bd:=mvB kB0 0 (mkO 0 0 0) 0 2
def Plain.kB2:Bd:=mvB kB1 1 (mkO 0 1 0) 0 2
def Plain.kB3:Bd:=tkB kB2 0 0 0
def Plain.kX0:Ob:=rsO (mkO 0 0 0) 2
def Plain.kX1:Ob:=rsO (mkO 0 1 0) 2
def Plain.kB4:Bd:=setB kB3 0 (daO kX0 2)
def Plain.kB5:Bd:=setB kB4 1 (daO kX1 1)
def Plain.kW1:Bd:=mvB kB5 0 (daO kX0 2) 0 3
def Plain.kW2:Bd:=rmB kW1 2 3
def Plain.kW3:Bd:={kW2 with qu:=[⟨0,1,0,0,[]⟩]}
def Plain.cB0:Bd:=newB 20 [0,1] []
def Plain.cB1:Bd:=mvB cB0 0 (mkO 0 0 0) 0 1
def Plain.cB2:Bd:=mvB cB1 1 (mkO 0 1 1) 0 2
def Plain.cX0:Ob:=rsO (mkO 0 0 0) 1
def Plain.cX1:Ob:=rsO (mkO 0 1 1) 2
def Plain.cB3:Bd:=setB cB2 0 (dmO cX0)
def Plain.cB4:Bd:=setB cB3 1 (dmO cX1)
def Plain.dB0:Bd:=newB 20 [] []
def Plain.tB1:Bd:=tkB dB0 1 1 1
def Plain.tX1:Ob:=tkO 1 1 1 1
def Plain.hB1:Bd:=mvB tB1 0 tX1 1 1
def Plain.dL1:Bd:={dB0 with s0:={dB0.s0 with li:=0}}
def Plain.dL2:Bd:={dL1 with s1:={dL1.s1 with li:=5}}
def Plain.dL3:Bd:={dL2 with s1:={dL2.s1 with em:=true}}
theorem zsF(B:Bd)(h:∀p:Fin 2,∀z:Fin 4,((B.seat p).zs z).length<=1000):∀(p z:Nat),((B.seat p).zs z).length<=1000:=by
 intro p z;have e1:B.seat p=B.seat (if p=0 then 0 else 1):=by unfold Bd.seat;by_cases hp:p=0<;>simp[hp]
 have e2:∀S:Se,S.zs z=S.zs (if z<3 then z else 3):=fun S=>by
  unfold Se.zs
  by_cases h3:z<3
  ·rw[if_pos h3]
  rw[if_neg h3,if_neg (by omega),if_neg (by omega),if_neg (by omega)]
  rfl
 rw[e1,e2];exact h ⟨if p=0 then 0 else 1,by split<;>omega⟩ ⟨if z<3 then z else 3,by split<;>omega⟩
theorem smF{B:Bd}(h:∀p:Fin 2,∀z:Fin 4,((B.seat p).zs z).length<=1000)(h1:B.ob.length<=1000)(h2:B.st.length<=1000)(h3:B.qu.length<=1000)(h4:B.att.length<=1000)(h5:B.bl.length<=1000):B.Sm:=⟨zsF B h,h1,h2,h3,h4,h5⟩
theorem tlF{B:Bd}(h2:B.st=[])(h3:B.qu=[]):B.Tl:=⟨(by intro x hx;rw[h2] at hx;cases hx),(by intro x hx;rw[h3] at hx;cases hx)⟩
theorem firstF(L:List Ob)(k:Nat)(id:Int)(h:∀j:Fin k,∀q∈L[j.1]?,q.id≠id):∀(j:Nat) (q:Ob),j<k->L[j]? =some q->q.id≠id:=fun j q hj hq=>h ⟨j,hj⟩ q (by rw[hq];rfl)
theorem seqF(L:List Ob)(h:L.map Ob.id=(List.range L.length).map (fun i=>((i+1:Nat):Int))):Seq L:=fun i q hq=>by
 have e1:(L.map Ob.id)[i]? =some q.id:=by rw[List.getElem?_map,hq];rfl
 have hi:=(List.getElem?_eq_some_iff.1 hq).1;rw[h,List.getElem?_map,List.getElem?_range hi] at e1
 exact(Option.some.inj e1).symm
theorem kB5_vb:VB kB5:=vb_of (by unfold vNum;decide+kernel) (by decide+kernel) (by decide+kernel) (by kernel_rfl) (by kernel_rfl) (by kernel_rfl) (by kernel_rfl) (by decide+kernel) (by decide+kernel) (by decide+kernel) (by decide+kernel)
theorem cB4_vb:VB cB4:=vb_of (by unfold vNum;decide+kernel) (by decide+kernel) (by decide+kernel) (by kernel_rfl) (by kernel_rfl) (by kernel_rfl) (by kernel_rfl) (by decide+kernel) (by decide+kernel) (by decide+kernel) (by decide+kernel)
theorem hB1_vb:VB hB1:=vb_of (by unfold vNum;decide+kernel) (by decide+kernel) (by decide+kernel) (by kernel_rfl) (by kernel_rfl) (by kernel_rfl) (by kernel_rfl) (by decide+kernel) (by decide+kernel) (by decide+kernel) (by decide+kernel)
def Plain.csP(a:Nat):List (Cd×List (Int×Nat)):=[({noCd with kd:=2,pw:=2,tg:=2,ta:=some ⟨a,0,none⟩,tl:=1,tc:=1},[(1,1)]),({noCd with kd:=1},[])]
theorem csP_ci(a:Nat):CI ((csP a).map Prod.fst):=fun c hc=>by
 simp[csP] at hc
 rcases hc with rfl|rfl<;>unfold Plain.I<;>simp[noCd]
theorem csP_lt(a:Nat):Lt (csP a):=⟨by simp[csP],fun x hx=>by
 simp[csP] at hx
 rcases hx with rfl|rfl
 ·exact⟨Nat.zero_le _,by simp,fun t ht=>by simp at ht;subst ht;simp⟩
 exact⟨Nat.zero_le _,by simp,fun t ht=>by simp at ht⟩⟩
theorem kn_b(a:Nat):ckB (csP a) kB5 9=kW3:=by kernel_rfl
theorem kn_bn(a:Nat):ckN (csP a) kB5 9=3:=by kernel_rfl
theorem kn_c(a:Nat):ckB (csP a) cB4 9=cB4:=by kernel_rfl
theorem kn_cn(a:Nat):ckN (csP a) cB4 9=0:=by kernel_rfl
theorem kn_h(a:Nat):ckB (csP a) hB1 9=dB0:=by kernel_rfl
theorem kn_hn(a:Nat):ckN (csP a) hB1 9=1:=by kernel_rfl
theorem kn_s1(a:Nat):((((dyL ((csP a).map Prod.fst) kB5).length:Int)+((goL kB5).length:Int))==0)=false:=by kernel_rfl
theorem kn_s2(a:Nat):((((dyL ((csP a).map Prod.fst) kW3).length:Int)+((goL kW3).length:Int))==0)=true:=by kernel_rfl
theorem kW3_vb:VB kW3:=by
 have h:=(ckB_ok (csP 0) kB5_vb 9).1;rw[kn_b] at h
 exact h
end Go.Proofs.YtpbepnpnpopmfaaGreat
namespace Go.Proofs.YtpbepnpnpopmfaaGreat
open Plain
set_option linter.unusedVariables false
set_option linter.unusedSimpArgs false

theorem Rw.of_ro{α:Type}{f:α->List Value}{sz:Nat}{W:World}{P:Nat}{C:Array Value}{t:TypeId}(h:Ro W P C t)(l:List α)(hC:C.toList=l.flatMap f)(hs:∀x∈l,(f x).length=sz)(h0:l≠[])(hm:l.length<=maxLen)(n cap:Nat)(hn:n=l.length):Rw f sz W (.slice (some ⟨P,0,none⟩) n cap) l:=by
 subst hn;exact .inr ⟨h0,hm,P,0,cap,rfl,h.lt,fun i x hi j u hu=>by rw[Nat.zero_add,h.cell,<-Array.getElem?_toList,hC];exact flat_at hs hi hu⟩
theorem pool_rd(w:World):CsR (((w.alloc (.cells #[.int .i64 2,.int .i64 0,.int .i64 1,.int .i64 0,.int .i64 0] 109)).alloc (.cells #[.int .i64 1,.slice (some ⟨w.heap.size,0,none⟩) 1 1] 67)).alloc (.cells #[.string ⟨#[]⟩,.int .i64 2,.int .i64 0,.int .i64 0,.int .i64 0,.int .i64 0,.int .i64 0,.int .i64 0,.int .i64 2,.int .i64 2,.int .i64 0,.slice none 0 0,.slice (some ⟨w.heap.size+1,0,none⟩) 1 1,.int .i64 0,.string ⟨#[]⟩,.int .i64 1,.int .i64 0,.int .i64 0,.int .i64 0,.int .i64 0,.int .i64 0,.int .i64 0,.int .i64 0,.int .i64 0,.int .i64 0,.slice none 0 0,.slice none 0 0,.int .i64 0] 64)) (.slice (some ⟨w.heap.size+1+1,0,none⟩) 2 2) (csP (w.heap.size+1)):=by
 have b1:Below (w.alloc (.cells #[.int .i64 2,.int .i64 0,.int .i64 1,.int .i64 0,.int .i64 0] 109)).heap.size (w.alloc (.cells #[.int .i64 2,.int .i64 0,.int .i64 1,.int .i64 0,.int .i64 0] 109)) ((w.alloc (.cells #[.int .i64 2,.int .i64 0,.int .i64 1,.int .i64 0,.int .i64 0] 109)).alloc (.cells #[.int .i64 1,.slice (some ⟨w.heap.size,0,none⟩) 1 1] 67)):=(Below.refl _ _).alloc (Nat.le_refl _) _;have b2:Below ((w.alloc (.cells #[.int .i64 2,.int .i64 0,.int .i64 1,.int .i64 0,.int .i64 0] 109)).alloc (.cells #[.int .i64 1,.slice (some ⟨w.heap.size,0,none⟩) 1 1] 67)).heap.size ((w.alloc (.cells #[.int .i64 2,.int .i64 0,.int .i64 1,.int .i64 0,.int .i64 0] 109)).alloc (.cells #[.int .i64 1,.slice (some ⟨w.heap.size,0,none⟩) 1 1] 67)) (((w.alloc (.cells #[.int .i64 2,.int .i64 0,.int .i64 1,.int .i64 0,.int .i64 0] 109)).alloc (.cells #[.int .i64 1,.slice (some ⟨w.heap.size,0,none⟩) 1 1] 67)).alloc (.cells #[.string ⟨#[]⟩,.int .i64 2,.int .i64 0,.int .i64 0,.int .i64 0,.int .i64 0,.int .i64 0,.int .i64 0,.int .i64 2,.int .i64 2,.int .i64 0,.slice none 0 0,.slice (some ⟨w.heap.size+1,0,none⟩) 1 1,.int .i64 0,.string ⟨#[]⟩,.int .i64 1,.int .i64 0,.int .i64 0,.int .i64 0,.int .i64 0,.int .i64 0,.int .i64 0,.int .i64 0,.int .i64 0,.int .i64 0,.slice none 0 0,.slice none 0 0,.int .i64 0] 64)):=(Below.refl _ _).alloc (Nat.le_refl _) _;have e1:(w.alloc (.cells #[.int .i64 2,.int .i64 0,.int .i64 1,.int .i64 0,.int .i64 0] 109)).heap.size=w.heap.size+1:=by simp
 have e2:((w.alloc (.cells #[.int .i64 2,.int .i64 0,.int .i64 1,.int .i64 0,.int .i64 0] 109)).alloc (.cells #[.int .i64 1,.slice (some ⟨w.heap.size,0,none⟩) 1 1] 67)).heap.size=w.heap.size+1+1:=by simp
 have r0:=((Ro.new w #[.int .i64 2,.int .i64 0,.int .i64 1,.int .i64 0,.int .i64 0] 109).below b1).below b2;have r1:=(Ro.new (w.alloc (.cells #[.int .i64 2,.int .i64 0,.int .i64 1,.int .i64 0,.int .i64 0] 109)) #[.int .i64 1,.slice (some ⟨w.heap.size,0,none⟩) 1 1] 67).below b2;have r2:=Ro.new ((w.alloc (.cells #[.int .i64 2,.int .i64 0,.int .i64 1,.int .i64 0,.int .i64 0] 109)).alloc (.cells #[.int .i64 1,.slice (some ⟨w.heap.size,0,none⟩) 1 1] 67)) #[.string ⟨#[]⟩,.int .i64 2,.int .i64 0,.int .i64 0,.int .i64 0,.int .i64 0,.int .i64 0,.int .i64 0,.int .i64 2,.int .i64 2,.int .i64 0,.slice none 0 0,.slice (some ⟨w.heap.size+1,0,none⟩) 1 1,.int .i64 0,.string ⟨#[]⟩,.int .i64 1,.int .i64 0,.int .i64 0,.int .i64 0,.int .i64 0,.int .i64 0,.int .i64 0,.int .i64 0,.int .i64 0,.int .i64 0,.slice none 0 0,.slice none 0 0,.int .i64 0] 64;rw[e1] at r1
 rw[e2] at r2
 refine⟨.inr ⟨by simp[csP],by simp[csP,maxLen],w.heap.size+1+1,0,2,rfl,r2.lt,fun i c hi j u hu=> ?_⟩,fun x hx=> ?_⟩
 ·rw[Nat.zero_add,r2.cell,<-Array.getElem?_toList]
  exact flat_at (f:=Cd.cells) (sz:=14) (l:=(csP (w.heap.size+1)).map Prod.fst) (fun _ _=>rfl) hi hu
 simp only[csP,List.mem_cons,List.not_mem_nil,or_false] at hx
 rcases hx with rfl|rfl
 ·refine⟨⟨[],Rw.nil _⟩,[(1,⟨some ⟨w.heap.size,0,none⟩,1,1⟩)],Rw.of_ro r1 _ rfl trc_len (by simp) (by simp[maxLen]) 1 1 rfl,rfl,fun t ht=> ?_⟩
  obtain rfl:=List.mem_singleton.1 ht
  exact⟨[⟨2,0,1,0,0⟩],Rw.of_ro r0 _ rfl efc_len (by simp) (by simp[maxLen]) 1 1 rfl⟩
 exact⟨⟨[],Rw.nil _⟩,[],Rw.nil _,rfl,fun t ht=>by cases ht⟩
theorem lpool(w:World):Calls Tryz.prog 31 #[] w fun e w' =>(∃v a,e= .returned v/\CsR w' v (csP a))/\Below w.heap.size w w':=by
 go_enter Tryz.func31,Tryz.ntmps31;go_wp2_with fail
 go_returns
 exact⟨⟨_,_,rfl,pool_rd w⟩,by go_grown⟩
theorem lchecks(v:Value)(cs:List (Cd×List (Int×Nat)))(s:Bs)(B:Bd)(t:Int)(s2:Bs)(X:Bd)(m:Nat)(w:World)(hc:CsR w v cs)(hci:CI (cs.map Prod.fst))(hl:Lt cs)(h:BdR w s B)(h2:BdR w s2 X)(hv:VB B)(ht:0<=t)(hn:B.ob.length<=210)(hX:ckB cs B t=X)(hN:ckN cs B t=m):Calls Tryz.prog 12 #[v,bv s B,.int .i64 t,bv s2 X,.int .i64 m] w fun e w' =>e= .returned (.bool true)/\Below w.heap.size w w':=by
 have HCS:=Hd hc;have HCI:=Hd hci;have HL:=Hd hl;have HR:=Hd h;have HR2:=Hd h2;have HV:=Hd hv;have HT:=Hd ht;have HN:=Hd hn;have HX:=Hd hX;clear h h2 hv ht hn hc hci hl hX;go_enter Tryz.func12,Tryz.ntmps12
 go_upto_region 1 with fail
 change Code.wp Tryz.prog _ _ _ ((w.alloc (.cells (bcells s B) 34)).alloc (.cells (bcells s2 X) 34))
 obtain⟨wz,hwz⟩:∃W,W=((w.alloc (.cells (bcells s B) 34)).alloc (.cells (bcells s2 X) 34)):=⟨_,rfl⟩
 rw[<-hwz];have b0:Below w.heap.size w (w.alloc (.cells (bcells s B) 34)):=by exact(Below.refl _ _).alloc (Nat.le_refl _) _
 have b1:Below (w.alloc (.cells (bcells s B) 34)).heap.size (w.alloc (.cells (bcells s B) 34)) wz:=by rw[hwz];exact(Below.refl _ _).alloc (Nat.le_refl _) _
 have HB:Hid (Below w.heap.size w wz):=Hd (below_via b0 b1);have HXb:Hid (Bx wz (w.heap.size) s B):=Hd ((Ro.new w (bcells s B) 34).below b1:Ro _ _ _ _);have HXx:Hid (Bx wz (w.heap.size+1) s2 X):=Hd (by rw[show w.heap.size+1=(w.alloc (.cells (bcells s B) 34)).heap.size by simp];exact(by rw[hwz];exact(Ro.new (w.alloc (.cells (bcells s B) 34)) (bcells s2 X) 34)));have HC1:Hid (w.heap.size+2<=wz.heap.size):=Hd (by rw[hwz];simp);clear hwz b0 b1;go_wp2_with (first|(refine wpList_load_bx _ rfl rfl HXb.o (by kernel_rfl) ?_))
 with_reducible refine(check_ok v cs s B t _ (HCS.o.below HB.o) HCI.o HL.o (HR.o.below HB.o) HV.o HT.o HN.o).mono ?_
 rintro e w1 ⟨sc,rfl,ho,hb⟩;have HC2:Hid (wz.heap.size<=w1.heap.size):=Hd (hb.size);replace HB:=Hd (below_via HB.o hb);replace HXb:=Hd (HXb.o.below hb);replace HXx:=Hd (HXx.o.below hb);have HOc:=Hd ho;clear ho hb;rw[hN];go_wp2_with (first|(refine wpList_store_bh rfl _ _ rfl rfl rfl (heap_alloc_new _ _) rfl ?_))
 intro w2 hw0;have hbx:=boxed hw0.out
 obtain⟨nr,hn⟩:∃n,n=w1.heap.size:=⟨_,rfl⟩
 rw[<-hn] at hbx ⊢
 have hb:=hbx.1;rw[hn] at hb
 clear hw0;replace HB:=Hd (below_via HB.o hb);replace HXb:=Hd (HXb.o.below hb);replace HXx:=Hd (HXx.o.below hb);replace HOc:=Hd (HOc.o.below hb);have HXr:Hid (Bx w2 nr sc ((ckB cs B t))):=Hd hbx.2;have HC3:Hid (w1.heap.size<=nr/\nr<w2.heap.size):=Hd (⟨by omega,hbx.2.lt⟩);clear hbx hn hb;have HO2:Hid (BdR w2 sc X):=Hd (HX.o▸HOc.o.rd);rw[HX.o] at HXr
 have q0:((m:Int)==(m:Int))=true:=beq_self_eq_true _;clear HOc;go_wp2_with (first|(refine wpList_load_bx _ rfl rfl HXr.o (by kernel_rfl) ?_)|(refine wpList_load_bx _ rfl rfl HXx.o (by kernel_rfl) ?_))
 with_reducible refine(rsame sc s2 X _ HO2.o (HR2.o.below HB.o)).mono ?_
 rintro e w3 ⟨rfl,hb⟩;have HC4:Hid (w2.heap.size<=w3.heap.size):=Hd (hb.size);replace HB:=Hd (below_via HB.o hb);replace HXb:=Hd (HXb.o.below hb);replace HXx:=Hd (HXx.o.below hb);replace HXr:=Hd (HXr.o.below hb);replace HO2:=Hd (HO2.o.below hb);clear hb;go_wp2_with fail
 go_returns
 exact⟨rfl,HB.o⟩
end Go.Proofs.YtpbepnpnpopmfaaGreat
