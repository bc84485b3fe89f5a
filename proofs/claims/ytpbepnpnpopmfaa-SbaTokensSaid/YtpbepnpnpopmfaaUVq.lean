/- What Check answers, apart from the queue. -/
import Derived.Test.YtpbepnpnpopmfaaUKv
namespace Go.Proofs.Ytpbepnpnpopmfaa
open Go.RowKit Plain
set_option linter.unusedVariables false
set_option linter.unusedSimpArgs false

/-- a board with another queue -/
def Plain.quB(B:Bd)(q:List It):Bd:={B with qu:=q}
theorem mv_qu(B:Bd)(q:List It)(k:Nat)(x:Ob)(p z:Nat):mvB (quB B q) k x p z=quB (mvB B k x p z) q:=by
 unfold mvB Bd.setL
 split<;>rfl
theorem mvI_qu(B:Bd)(q:List It)(n:Int):mvI (quB B q) n=quB (mvI B n) q:=by
 unfold mvI
 show(match B.ob[B.ob.findIdx (fun o=>o.id==n)]? with|some x=>_|none=>_)=_
 cases B.ob[B.ob.findIdx (fun o=>o.id==n)]? with
 |none=>rfl
 |some x=>exact mv_qu B q _ x _ 3
theorem mvs_qu(q:List It):∀(l:List Int) (B:Bd),l.foldl mvI (quB B q)=quB (l.foldl mvI B) q
 |[],_=>rfl
 |n::l,B=>by rw[List.foldl_cons,List.foldl_cons,mvI_qu];exact mvs_qu q l _
theorem rms_qu(q:List It):∀(l:List Int) (B:Bd),l.foldl rmI (quB B q)=quB (l.foldl rmI B) q
 |[],_=>rfl
 |n::l,B=>by
  rw[List.foldl_cons,List.foldl_cons];exact rms_qu q l (rmI B n)
theorem coB_qu(B:Bd)(all:List It)(t:Int):coB B all t=quB B (B.qu++all.take (room B all.length t)):=rfl
/-- the board behind all moves -/
def Plain.dmB(cs:List (Cd×List (Int×Nat)))(B:Bd):Bd:=(dyL (cs.map Prod.fst) B).foldl mvI B
/-- all triggers of those who die -/
def Plain.dyA(cs:List (Cd×List (Int×Nat)))(B:Bd):List It:=allL cs B (hpL (dyL (cs.map Prod.fst) B))
/-- the queue behind a round -/
def Plain.ckQ(cs:List (Cd×List (Int×Nat)))(B:Bd)(t:Int):List It:=B.qu++(dyA cs B).take (room B (dyA cs B).length t)
theorem byB_eq(cs:List (Cd×List (Int×Nat)))(B:Bd)(t:Int):byB cs B t=quB (dmB cs B) (ckQ cs B t):=by
 unfold byB buB;rw[coB_qu,mvs_qu]
 rfl
theorem ckB_eq(cs:List (Cd×List (Int×Nat)))(B:Bd)(t:Int):ckB cs B t=quB (swB (dmB cs B)) (ckQ cs B t):=by
 unfold ckB swB;rw[byB_eq];exact rms_qu _ _ _
theorem ckN_eq(cs:List (Cd×List (Int×Nat)))(B:Bd)(t:Int):ckN cs B t=(dyL (cs.map Prod.fst) B).length+(goL (dmB cs B)).length:=by
 unfold ckN;rw[byB_eq]
 rfl
theorem Plain.VB.quq{B:Bd}(h:VB B){q:List It}(hl:q.length≤200)(hq:q.all (fun x=>itB x true)=true):VB (quB B q):=by
 refine⟨?_,h.se0,h.se1,⟨h.its.1,hq⟩,⟨h.plc.nd,h.plc.ob,h.plc.len⟩,⟨h.fgt.nd,h.fgt.own,h.fgt.na,h.fgt.nb,h.fgt.bl⟩⟩
 have hn:=h.num;unfold vNum at hn ⊢
 exact⟨hn.1,hn.2.1,hn.2.2.1,hn.2.2.2.1,hn.2.2.2.2.1,hn.2.2.2.2.2.1,hn.2.2.2.2.2.2.1,hl⟩
def Plain.beqO(a b:Ob):Bool:=a.id==b.id&&a.cd==b.cd&&a.ow==b.ow&&a.po==b.po&&a.tg==b.tg&&a.da==b.da&&a.co==b.co&&a.pp==b.pp&&a.pt==b.pt&&a.ta==b.ta&&a.si==b.si&&a.dm==b.dm
theorem beqO_eq{a b:Ob}(h:beqO a b=true):a=b:=by
 cases a
 cases b
 simp only[beqO,Bool.and_eq_true,beq_iff_eq] at h
 obtain⟨⟨⟨⟨⟨⟨⟨⟨⟨⟨⟨h1,h2⟩,h3⟩,h4⟩,h5⟩,h6⟩,h7⟩,h8⟩,h9⟩,h10⟩,h11⟩,h12⟩:=h
 subst h1 h2 h3 h4 h5 h6 h7 h8 h9 h10 h11 h12
 rfl
/-- items without targets, and what they are -/
def Plain.beqI(a b:It):Bool:=a.pl==b.pl&&a.id==b.id&&a.cd==b.cd&&a.tr==b.tr&&a.tg.isEmpty&&b.tg.isEmpty
theorem beqI_eq{a b:It}(h:beqI a b=true):a=b:=by
 cases a
 cases b
 simp only[beqI,Bool.and_eq_true,beq_iff_eq,List.isEmpty_iff] at h
 obtain⟨⟨⟨⟨⟨h1,h2⟩,h3⟩,h4⟩,h5⟩,h6⟩:=h
 subst h1 h2 h3 h4 h5 h6
 rfl
def Plain.beqIs:List It→List It→Bool
 |[],[]=>true
 |a::l,b::m=>beqI a b&&beqIs l m
 |_,_=>false
theorem beqIs_eq:∀{l m:List It},beqIs l m=true→l=m
 |[],[],_=>rfl
 |[],_::_,h=>by cases h
 |_::_,[],h=>by cases h
 |a::l,b::m,h=>by
  simp only[beqIs,Bool.and_eq_true] at h
  rw[beqI_eq h.1,beqIs_eq h.2]
def Plain.vbD(B:Bd):Bool:=decide ((0≤B.ac∧B.ac≤1)∧(0≤B.tu∧B.tu≤1000)∧(0≤B.ph∧B.ph≤10)∧(-1≤B.ho∧B.ho≤1)∧(0≤B.pa∧B.pa≤2)∧B.ob.length≤500)&&seB B.s0&&seB B.s1&&B.st.isEmpty&&B.qu.isEmpty&&B.att.isEmpty&&B.bl.isEmpty&&decide ((B.prs.map Prod.fst).Nodup)&&B.ob.all (fun o=>vO o&&decide ((o.id,o.ow)∈B.prs))&&decide ((B.ob.map Ob.id).Pairwise (·< ·))&&(B.prs.length==B.ob.length)
theorem vbD_vb{B:Bd}(h:vbD B=true):VB B:=by
 simp only[vbD,Bool.and_eq_true,List.isEmpty_iff,decide_eq_true_eq,beq_iff_eq] at h
 obtain⟨⟨⟨⟨⟨⟨⟨⟨⟨⟨h1,h2⟩,h3⟩,h4⟩,h5⟩,h6⟩,h7⟩,h8⟩,h9⟩,h10⟩,h11⟩:=h
 refine vb_of ?_ h2 h3 h4 h5 h6 h7 h8 h9 h10 h11;unfold vNum;rw[h4,h5]
 exact⟨h1.1,h1.2.1,h1.2.2.1,h1.2.2.2.1,h1.2.2.2.2.1,h1.2.2.2.2.2,by simp,by simp⟩
theorem csP_dy(a:Nat)(o:Ob):deB ((csP a).map Prod.fst) o=deB ((csP 0).map Prod.fst) o:=by
 have key:∀n:Int,(cardOf ((csP a).map Prod.fst) n).kd=(cardOf ((csP 0).map Prod.fst) n).kd∧(cardOf ((csP a).map Prod.fst) n).tg=(cardOf ((csP 0).map Prod.fst) n).tg:=fun n=>by
  unfold cardOf
  split
  ·exact⟨rfl,rfl⟩
  ·match n.toNat with
   |0=>exact⟨rfl,rfl⟩
   |1=>exact⟨rfl,rfl⟩
   |_+2=>exact⟨rfl,rfl⟩
 unfold deB crB toB baT;rw[(key o.cd).1,(key o.cd).2]
theorem csP_wh(a:Nat)(n:Int):whens (cardX (csP a) n)=whens (cardX (csP 0) n):=by
 unfold cardX
 split
 ·rfl
 ·match n.toNat with
  |0=>rfl
  |1=>rfl
  |_+2=>rfl
theorem csP_dyL(a:Nat)(B:Bd):dyL ((csP a).map Prod.fst) B=dyL ((csP 0).map Prod.fst) B:=by
 unfold dyL dyB;rw[show(fun o=>onF B o&&deB ((csP a).map Prod.fst) o)=(fun o=>onF B o&&deB ((csP 0).map Prod.fst) o) from funext (fun o=>by rw[csP_dy])]
theorem csP_dm(a:Nat)(B:Bd):dmB (csP a) B=dmB (csP 0) B:=by
 unfold dmB;rw[csP_dyL]
theorem csP_dyA(a:Nat)(B:Bd):dyA (csP a) B=dyA (csP 0) B:=by
 unfold dyA allL hapK trO;rw[csP_dyL];simp only[csP_wh a]
/-- cards that come onto the battlefield, one after the other, and are doomed -/
def Plain.dgB(m:Nat):Nat→Bd
 |0=>newB 9 (List.replicate m 0) [1]
 |i+1=>setB (mvB (dgB m i) i (mkO 0 i 0) 0 2) i (dmO (rsO (mkO 0 i 0) 2))
def Plain.dgOk(m i:Nat):Bool:=
 let B:=dgB m i
 (match B.ob[i]? with|some q=>beqO q (mkO 0 i 0)|none=>false)&&(B.ob.take i).all (fun q=>q.id !=((i+1:Nat):Int))&&(B.ob.length==m+1)&&decide (∀p:Fin 2,∀z:Fin 4,((B.seat p).zs z).length≤1000)&&B.st.isEmpty&&B.qu.isEmpty&&B.att.isEmpty&&B.bl.isEmpty
def Plain.idL(m:Nat):List Int:=(List.range m).map (fun j=>((j+1:Nat):Int))
def Plain.itL(m:Nat):List It:=(List.range m).map (fun j=>⟨0,((j+1:Nat):Int),0,0,[]⟩)
def Plain.dgF(m:Nat):Bool:=
 let B:=dgB m m
 vbD B&&(B.ob.length==m+1)&&(dyL ((csP 0).map Prod.fst) B==idL m)&&((idL m).foldl mvI B).s0.grv.length==m&&((idL m).foldl mvI B).s0.fld.isEmpty&&(goL ((idL m).foldl mvI B)).isEmpty&&beqIs (allL (csP 0) B (hpL (idL m))) (itL m)
theorem dgOk_all:((List.range 26).all fun m=>(List.range m).all fun i=>dgOk m i)=true:=by decide+kernel
theorem dgF_all:((List.range 26).all fun m=>dgF m)=true:=by decide+kernel
theorem dg_facts{n i:Nat}(hn:n≤25)(hi:i<n):(dgB n i).ob[i]? =some (mkO 0 i 0)∧(∀(j:Nat) (q:Ob),j<i→(dgB n i).ob[j]? =some q→q.id≠(mkO 0 i 0).id)∧(dgB n i).ob.length=n+1∧(dgB n i).Sm∧(dgB n i).Tl:=by
 have h0:=List.all_eq_true.1 dgOk_all n (List.mem_range.2 (by omega));have h:=List.all_eq_true.1 h0 i (List.mem_range.2 hi);simp only[dgOk,Bool.and_eq_true,List.isEmpty_iff,decide_eq_true_eq,beq_iff_eq] at h
 obtain⟨⟨⟨⟨⟨⟨⟨h1,h2⟩,h3⟩,h4⟩,h5⟩,h6⟩,h7⟩,h8⟩:=h
 refine⟨?_,fun j q hj hq=> ?_,h3,smF h4 (by omega) (by rw[h5];simp) (by rw[h6];simp) (by rw[h7];simp) (by rw[h8];simp),tlF h5 h6⟩
 ·cases e:(dgB n i).ob[i]? with
  |none=>rw[e] at h1;cases h1
  |some q=>rw[e] at h1;rw[beqO_eq h1]
 ·have h9:=List.all_eq_true.1 h2 q (List.mem_of_getElem? (i:=j) (by rw[List.getElem?_take_of_lt hj];exact hq))
  simpa [mkO] using h9
theorem dg_fin{n:Nat}(hn:n≤25):VB (dgB n n)∧(dgB n n).ob.length=n+1∧dyL ((csP 0).map Prod.fst) (dgB n n)=idL n∧(dmB (csP 0) (dgB n n)).s0.grv.length=n∧(dmB (csP 0) (dgB n n)).s0.fld=[]∧goL (dmB (csP 0) (dgB n n))=[]∧dyA (csP 0) (dgB n n)=itL n:=by
 have h:=List.all_eq_true.1 dgF_all n (List.mem_range.2 (by omega));simp only[dgF,Bool.and_eq_true,List.isEmpty_iff,beq_iff_eq] at h
 obtain⟨⟨⟨⟨⟨⟨h1,h2⟩,h3⟩,h4⟩,h5⟩,h6⟩,h7⟩:=h
 refine⟨vbD_vb h1,h2,h3,?_,?_,?_,?_⟩
 ·unfold dmB;rw[h3];exact h4
 ·unfold dmB;rw[h3];exact h5
 ·unfold dmB;rw[h3];exact h6
 ·unfold dyA;rw[h3];exact beqIs_eq h7
/-- the items that wait already -/
def Plain.qI:It:=⟨1,9,9,1,[]⟩
def Plain.dgW(n m:Nat):Bd:=quB (dgB n n) (List.replicate m qI)
theorem dgW_zero(n:Nat)(hn:n≤25)(h:(dgB n n).qu=[]):dgW n 0=dgB n n:=by
 unfold dgW quB;rw[List.replicate_zero,←h]
theorem dgW_next(n m:Nat):dgW n (m+1)={dgW n m with qu:=(dgW n m).qu++[qI]}:=by
 unfold dgW quB;rw[List.replicate_succ']
theorem dgW_vb{n m:Nat}(hn:n≤25)(hm:m≤20):VB (dgW n m):=(dg_fin hn).1.quq (by rw[List.length_replicate];omega) (List.all_eq_true.2 (fun x hx=>by rw[List.eq_of_mem_replicate hx];decide+kernel))
theorem dg_qu{n:Nat}(hn:n≤25):(dgB n n).qu=[]:=by
 have h:=List.all_eq_true.1 dgF_all n (List.mem_range.2 (by omega));simp only[dgF,vbD,Bool.and_eq_true,List.isEmpty_iff] at h
 exact h.1.1.1.1.1.1.1.1.1.1.1.1.2
theorem dg_res(a:Nat){n m t:Nat}(hn:n≤25)(hm:m≤20)(ht:t≤40):ckN (csP a) (dgW n m) t=n∧(ckB (csP a) (dgW n m) t).s0.grv.length=n∧(ckB (csP a) (dgW n m) t).s0.fld.length=0∧(ckB (csP a) (dgW n m) t).qu.length=max m (min t (m+n))∧∀i,m≤i→i<max m (min t (m+n))→(ckB (csP a) (dgW n m) t).qu[i]? =some ⟨0,((i-m+1:Nat):Int),0,0,[]⟩:=by
 obtain⟨_,_,h3,h4,h5,h6,h7⟩:=dg_fin hn
 have e1:dmB (csP a) (dgW n m)=quB (dmB (csP 0) (dgB n n)) (List.replicate m qI):=by
  rw[csP_dm];exact mvs_qu _ _ _
 have e2:dyA (csP a) (dgW n m)=itL n:=by
  rw[csP_dyA,←h7]
  rfl
 have e3:dyL ((csP a).map Prod.fst) (dgW n m)=idL n:=by
  rw[csP_dyL,←h3]
  rfl
 have e4:goL (dmB (csP a) (dgW n m))=[]:=by rw[e1];exact h6
 have e5:swB (dmB (csP a) (dgW n m))=dmB (csP a) (dgW n m):=swB_nil e4;have el:(itL n).length=n:=by simp[itL]
 have er:room (dgW n m) n t=min n (t-m):=by
  unfold room dgW quB;simp only[List.length_replicate];omega
 have eq:(ckB (csP a) (dgW n m) t).qu=List.replicate m qI++(itL n).take (min n (t-m)):=by
  rw[ckB_eq]
  show ckQ (csP a) (dgW n m) t=_
  unfold ckQ;rw[e2,el,er]
  rfl
 refine⟨?_,?_,?_,?_,fun i h1 h2=> ?_⟩
 ·rw[ckN_eq,e3,e4]
  simp[idL]
 ·rw[ckB_eq,e5,e1]
  exact h4
 ·rw[ckB_eq,e5,e1]
  exact congrArg List.length h5
 ·rw[eq,List.length_append,List.length_replicate,List.length_take,el]
  omega
 ·rw[eq,List.getElem?_append_right (by rw[List.length_replicate];exact h1),List.length_replicate,List.getElem?_take_of_lt (by omega)]
  unfold itL;rw[List.getElem?_map,List.getElem?_range (by omega)]
  rfl
end Go.Proofs.Ytpbepnpnpopmfaa
