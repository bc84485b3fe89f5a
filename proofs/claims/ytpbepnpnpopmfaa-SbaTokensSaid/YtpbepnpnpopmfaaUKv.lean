/- The boards of the chapter's examples. -/
import Derived.Test.YtpbepnpnpopmfaaUCh
import Derived.Test.YtpbepnpnpopmfaaTTk
import Derived.Test.YtpbepnpnpopmfaaTNw
namespace Go.Proofs.Ytpbepnpnpopmfaa
open Go.RowKit Plain
set_option linter.unusedVariables false
set_option linter.unusedSimpArgs false

theorem vb_of{B:Bd}(hn:vNum B)(h0:seB B.s0=true)(h1:seB B.s1=true)(hst:B.st=[])(hqu:B.qu=[])(hatt:B.att=[])(hbl:B.bl=[])(hnd:(B.prs.map Prod.fst).Nodup)(hob:B.ob.all (fun o=>vO o&&decide ((o.id,o.ow)∈B.prs))=true)(hr:(B.ob.map Ob.id).Pairwise (·< ·))(hl:B.prs.length=B.ob.length):VB B:=by
 refine⟨hn,h0,h1,⟨by rw[hst];rfl,by rw[hqu];rfl⟩,⟨hnd,fun i o h=> ?_,hl⟩,⟨by rw[hatt];exact List.nodup_nil,fun a ha=>(by rw[hatt] at ha;cases ha),by rw[hbl];exact List.nodup_nil,by rw[hbl];exact List.nodup_nil,fun x hx=>(by rw[hbl] at hx;cases hx)⟩⟩
 have h2:=List.all_eq_true.1 hob o (List.mem_of_getElem? h);simp only[Bool.and_eq_true,decide_eq_true_eq] at h2
 refine⟨h2.1,fun j q hj hq=> ?_,h2.2,fun x hx=>(by rw[hst] at hx;cases hx)⟩
 have e1:(B.ob.map Ob.id)[j]? =some q.id:=by rw[List.getElem?_map,hq];rfl
 have e2:(B.ob.map Ob.id)[i]? =some o.id:=by rw[List.getElem?_map,h];rfl
 obtain⟨l1,v1⟩:=List.getElem?_eq_some_iff.1 e1
 obtain⟨l2,v2⟩:=List.getElem?_eq_some_iff.1 e2
 have:=List.pairwise_iff_getElem.1 hr j i l1 l2 (by omega)
 rwa [v1,v2] at this
/-- an object's damage, and its doom -/
def Plain.daO(x:Ob)(n:Int):Ob:={x with da:=n}
def Plain.dmO(x:Ob):Ob:={x with dm:=true}
def Plain.setB(B:Bd)(k:Nat)(x:Ob):Bd:={B with ob:=B.ob.set k x}
def Plain.kB0:Bd:=newB 20 [0,0] []
def Plain.kB1:Bd:=mvB kB0 0 (mkO 0 0 0) 0 2
def Plain.kB2:Bd:=mvB kB1 1 (mkO 0 1 0) 0 2
def Plain.kB3:Bd:=tkB kB2 0 0 0
def Plain.kX0:Ob:=rsO (mkO 0 0 0) 2
def Plain.kX1:Ob:=rsO (mkO 0 1 0) 2
def Plain.kB4:Bd:=setB kB3 0 (daO kX0 2)
def Plain.kB5:Bd:=setB kB4 1 (daO kX1 1)
def Plain.kW1:Bd:=mvB kB5 0 (daO kX0 2) 0 3
def Plain.kW2:Bd:=rmB kW1 2 3
def Plain.kW3:Bd:={kW2 with qu:=[⟨0,1,0,0,[]⟩]}
def Plain.cB0:Bd:=newB 20 [0,1] []
def Plain.cB1:Bd:=mvB cB0 0 (mkO 0 0 0) 0 1
def Plain.cB2:Bd:=mvB cB1 1 (mkO 0 1 1) 0 2
def Plain.cX0:Ob:=rsO (mkO 0 0 0) 1
def Plain.cX1:Ob:=rsO (mkO 0 1 1) 2
def Plain.cB3:Bd:=setB cB2 0 (dmO cX0)
def Plain.cB4:Bd:=setB cB3 1 (dmO cX1)
def Plain.dB0:Bd:=newB 20 [] []
def Plain.tB1:Bd:=tkB dB0 1 1 1
def Plain.tX1:Ob:=tkO 1 1 1 1
def Plain.hB1:Bd:=mvB tB1 0 tX1 1 1
def Plain.dL1:Bd:={dB0 with s0:={dB0.s0 with li:=0}}
def Plain.dL2:Bd:={dL1 with s1:={dL1.s1 with li:=5}}
def Plain.dL3:Bd:={dL2 with s1:={dL2.s1 with em:=true}}
theorem zsF(B:Bd)(h:∀p:Fin 2,∀z:Fin 4,((B.seat p).zs z).length≤1000):∀(p z:Nat),((B.seat p).zs z).length≤1000:=by
 intro p z;have e1:B.seat p=B.seat (if p=0 then 0 else 1):=by unfold Bd.seat;by_cases hp:p=0<;>simp[hp]
 have e2:∀S:Se,S.zs z=S.zs (if z<3 then z else 3):=fun S=>by
  unfold Se.zs
  by_cases h3:z<3
  ·rw[if_pos h3]
  ·rw[if_neg h3,if_neg (by omega),if_neg (by omega),if_neg (by omega)]
   rfl
 rw[e1,e2];exact h ⟨if p=0 then 0 else 1,by split<;>omega⟩ ⟨if z<3 then z else 3,by split<;>omega⟩
theorem smF{B:Bd}(h:∀p:Fin 2,∀z:Fin 4,((B.seat p).zs z).length≤1000)(h1:B.ob.length≤1000)(h2:B.st.length≤1000)(h3:B.qu.length≤1000)(h4:B.att.length≤1000)(h5:B.bl.length≤1000):B.Sm:=⟨zsF B h,h1,h2,h3,h4,h5⟩
theorem tlF{B:Bd}(h2:B.st=[])(h3:B.qu=[]):B.Tl:=⟨(by intro x hx;rw[h2] at hx;cases hx),(by intro x hx;rw[h3] at hx;cases hx)⟩
theorem firstF(L:List Ob)(k:Nat)(id:Int)(h:∀j:Fin k,∀q∈L[j.1]?,q.id≠id):∀(j:Nat) (q:Ob),j<k→L[j]? =some q→q.id≠id:=fun j q hj hq=>h ⟨j,hj⟩ q (by rw[hq];rfl)
theorem seqF(L:List Ob)(h:L.map Ob.id=(List.range L.length).map (fun i=>((i+1:Nat):Int))):Seq L:=fun i q hq=>by
 have e1:(L.map Ob.id)[i]? =some q.id:=by rw[List.getElem?_map,hq];rfl
 have hi:=(List.getElem?_eq_some_iff.1 hq).1;rw[h,List.getElem?_map,List.getElem?_range hi] at e1
 exact(Option.some.inj e1).symm
theorem kB5_vb:VB kB5:=vb_of (by unfold vNum;decide+kernel) (by decide+kernel) (by decide+kernel) (by kernel_rfl) (by kernel_rfl) (by kernel_rfl) (by kernel_rfl) (by decide+kernel) (by decide+kernel) (by decide+kernel) (by decide+kernel)
theorem cB4_vb:VB cB4:=vb_of (by unfold vNum;decide+kernel) (by decide+kernel) (by decide+kernel) (by kernel_rfl) (by kernel_rfl) (by kernel_rfl) (by kernel_rfl) (by decide+kernel) (by decide+kernel) (by decide+kernel) (by decide+kernel)
theorem hB1_vb:VB hB1:=vb_of (by unfold vNum;decide+kernel) (by decide+kernel) (by decide+kernel) (by kernel_rfl) (by kernel_rfl) (by kernel_rfl) (by kernel_rfl) (by decide+kernel) (by decide+kernel) (by decide+kernel) (by decide+kernel)
/-- the cards of the examples; their triggers lie in block a -/
def Plain.csP(a:Nat):List (Cd×List (Int×Nat)):=[({noCd with kd:=2,pw:=2,tg:=2,ta:=some ⟨a,0,none⟩,tl:=1,tc:=1},[(1,1)]),({noCd with kd:=1},[])]
theorem csP_ci(a:Nat):CI ((csP a).map Prod.fst):=fun c hc=>by
 simp[csP] at hc
 rcases hc with rfl|rfl<;>unfold Plain.I<;>simp[noCd]
theorem csP_lt(a:Nat):Lt (csP a):=⟨by simp[csP],fun x hx=>by
 simp[csP] at hx
 rcases hx with rfl|rfl
 ·exact⟨Nat.zero_le _,by simp,fun t ht=>by simp at ht;subst ht;simp⟩
 ·exact⟨Nat.zero_le _,by simp,fun t ht=>by simp at ht⟩⟩
theorem kn_b(a:Nat):ckB (csP a) kB5 9=kW3:=by kernel_rfl
theorem kn_bn(a:Nat):ckN (csP a) kB5 9=3:=by kernel_rfl
theorem kn_c(a:Nat):ckB (csP a) cB4 9=cB4:=by kernel_rfl
theorem kn_cn(a:Nat):ckN (csP a) cB4 9=0:=by kernel_rfl
theorem kn_h(a:Nat):ckB (csP a) hB1 9=dB0:=by kernel_rfl
theorem kn_hn(a:Nat):ckN (csP a) hB1 9=1:=by kernel_rfl
theorem kn_s1(a:Nat):((((dyL ((csP a).map Prod.fst) kB5).length:Int)+((goL kB5).length:Int))==0)=false:=by kernel_rfl
theorem kn_s2(a:Nat):((((dyL ((csP a).map Prod.fst) kW3).length:Int)+((goL kW3).length:Int))==0)=true:=by kernel_rfl
theorem kW3_vb:VB kW3:=by
 have h:=(ckB_ok (csP 0) kB5_vb 9).1;rw[kn_b] at h
 exact h
end Go.Proofs.Ytpbepnpnpopmfaa
