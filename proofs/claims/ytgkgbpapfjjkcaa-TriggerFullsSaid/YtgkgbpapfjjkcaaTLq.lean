/- The law about full queues: what is collected. -/
import Derived.Test.YtgkgbpapfjjkcaaTLp
namespace Go.Proofs.Ytgkgbpapfjjkcaa
open Go.RowKit Plain
set_option linter.unusedVariables false
set_option linter.unusedSimpArgs false

namespace Plain
/-- the happenings -/
def exH(k:Nat):List Hp:=(List.range k).map (fun i=>⟨1,1+((i%3:Nat):Int),0⟩)
def exI:It:=⟨0,1,0,0,[]⟩
/-- the board with some items on the stack -/
def exS(m:Nat):Bd:={exB with st:=List.replicate m exI}
/-- all triggers -/
def exT(n:Nat):List It:=(exH n).flatMap (fun h=>hapE h.wh h.id h.pl)
end Plain
theorem exH_len(k:Nat):(exH k).length=k:=by unfold exH;rw[List.length_map,List.length_range]
theorem exH_next(k:Nat):exH (k+1)=exH k++[⟨1,1+((k%3:Nat):Int),0⟩]:=by unfold exH;rw[List.range_succ,List.map_append];rfl
theorem exT_len(n:Nat):(exT n).length=n:=by
 induction n with
 |zero=>rfl
 |succ k ih=>
  unfold exT at*
  rw[exH_next,List.flatMap_append,List.length_append,ih];have h:k%3=0∨k%3=1∨k%3=2:=by omega
  have e:(hapE 1 (1+((k%3:Nat):Int)) 0).length=1:=by rcases h with h|h|h<;>rw[h]<;>decide+kernel
  have e2:[(⟨1,1+((k%3:Nat):Int),0⟩:Hp)].flatMap (fun h=>hapE h.wh h.id h.pl)=hapE 1 (1+((k%3:Nat):Int)) 0:=by rw[List.flatMap_cons,List.flatMap_nil,List.append_nil]
  rw[e2,e]
theorem exH_id(k:Nat):∀x∈exH k,Plain.I x.id:=by
 intro x hx
 obtain⟨i,_,rfl⟩:=List.mem_map.1 hx
 unfold Plain.I
 have:i%3<3:=Nat.mod_lt _ (by omega)
 show _≤1+((i%3:Nat):Int)∧1+((i%3:Nat):Int)≤_
 omega
theorem exT_Q(n:Nat):∀x∈exT n,itQ x:=by
 have h:whens (cardX [({noCd with kd:=2},[(1,1),(3,1)])] 0)=[1,3]:=rfl;intro x hx;have e:=allE h (exH n);exact allL_Q exB_vb x (by rw[e];exact hx)
theorem exI_Q:itQ exI:=by unfold itQ exI;simp
theorem exS_next(m:Nat):exS (m+1)=puB (exS m) exI:=by unfold exS puB;rw[List.replicate_succ']
theorem exS_zero:exS 0=exB:=by kernel_rfl
theorem exS_vb(m:Nat)(h:m≤200):VB (exS m):=by
 induction m with
 |zero=>rw[exS_zero];exact exB_vb
 |succ k ih=>
  rw[exS_next];refine VB.pu (ih (by omega)) exI_Q ?_
  show(List.replicate k exI).length<200
  rw[List.length_replicate];omega
theorem allL_st(cs:List (Cd×List (Int×Nat)))(B:Bd)(S:List It)(L:List Hp):allL cs {B with st:=S} L=allL cs B L:=rfl
theorem allS{cs:List (Cd×List (Int×Nat))}(h:whens (cardX cs 0)=[1,3])(m n:Nat):allL cs (exS m) (exH n)=exT n:=by
 unfold exS;rw[allL_st];exact allE h (exH n)
theorem exS_qu(m:Nat):(exS m).qu=[]:=by
 have h:exB.qu=[]:=by kernel_rfl
 exact h
def Plain.exX(m n:Nat)(most:Int):Bd:=coB (exS m) (exT n) most
theorem exX_vb{m:Nat}(n:Nat)(most:Int)(h:m≤200):VB (exX m n most):=VB.co (exS_vb m h) (exT_Q n)
theorem exX_room{m n:Nat}{most:Int}:room (exS m) n most=min n (min most 200).toNat:=by
 unfold room;rw[exS_qu]
 simp
theorem exX_qu{m n:Nat}{most:Int}:(exX m n most).qu.length=min n (min most 200).toNat:=by
 unfold exX;rw[co_len,exS_qu,exT_len,exX_room]
 simp
theorem exX_st{m n:Nat}{most:Int}:(exX m n most).st.length=m:=by
 show(List.replicate m exI).length=m
 rw[List.length_replicate]
theorem exY_st{m n:Nat}{most:Int}:(drB (exX m n most)).st.length=min 200 (m+min n (min most 200).toNat):=by rw[drB_len,exX_st,exX_qu]
end Go.Proofs.Ytgkgbpapfjjkcaa
