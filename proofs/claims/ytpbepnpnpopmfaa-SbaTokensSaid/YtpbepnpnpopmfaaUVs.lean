/- Which tokens go. Boards with tokens in all zones. -/
import Derived.Test.YtpbepnpnpopmfaaUVq
namespace Go.Proofs.Ytpbepnpnpopmfaa
open Go.RowKit Plain
set_option linter.unusedVariables false
set_option linter.unusedSimpArgs false

/-- what a move leaves of an object -/
def Plain.keyO(o:Ob):Int×Int×Int:=(o.id,o.cd,o.ow)
theorem mvI_on{B:Bd}{n:Int}(h:∃x∈B.ob,x.id=n):(mvI B n).ob.map keyO=B.ob.map keyO∧∀y,onF (mvI B n) y=(!(y.id==n)&&onF B y):=by
 obtain⟨x0,hx0,he0⟩:=h
 have hlt:B.ob.findIdx (fun o=>o.id==n)<B.ob.length:=List.findIdx_lt_length_of_exists ⟨x0,hx0,by simp[he0]⟩;have h1:=List.findIdx_getElem (w:=hlt)
 obtain⟨x,hx⟩:∃x,B.ob[B.ob.findIdx (fun o=>o.id==n)]? =some x:=⟨_,List.getElem?_eq_getElem hlt⟩
 have hxi:x.id=n:=by
  have h2:x=B.ob[B.ob.findIdx (fun o=>o.id==n)]:=by rw[List.getElem?_eq_getElem hlt] at hx;exact(Option.some.inj hx).symm
  rw[h2]
  simpa using h1
 have e:mvI B n=mvB B (B.ob.findIdx (fun o=>o.id==n)) x x.ow.toNat 3:=by unfold mvI;rw[hx]
 rw[e]
 refine⟨?_,fun y=> ?_⟩
 ·have e1:(mvB B (B.ob.findIdx (fun o=>o.id==n)) x x.ow.toNat 3).ob=B.ob.set (B.ob.findIdx (fun o=>o.id==n)) (rsO x 3):=by
   unfold mvB Bd.setL
   split<;>rfl
  rw[e1,List.map_set];have e2:(B.ob.map keyO)[B.ob.findIdx (fun o=>o.id==n)]? =some (keyO (rsO x 3)):=by rw[List.getElem?_map,hx];rfl
  obtain⟨h3,h4⟩:=List.getElem?_eq_some_iff.1 e2
  rw[←h4,List.set_getElem_self]
 ·rw[onF_mv,hxi]
theorem mvs_on:∀{l:List Int} {B:Bd},(∀n∈l,∃x∈B.ob,x.id=n)→(l.foldl mvI B).ob.map keyO=B.ob.map keyO∧∀y,onF (l.foldl mvI B) y=(!(l.contains y.id)&&onF B y)
 |[],B,_=>⟨rfl,fun y=>by simp⟩
 |n::l,B,h=>by
  obtain⟨h1,h2⟩:=mvI_on (h n List.mem_cons_self)
  obtain⟨h3,h4⟩:=mvs_on (l:=l) (B:=mvI B n) (fun m hm=>by
   obtain⟨x,hx,e⟩:=h m (List.mem_cons_of_mem _ hm)
   have h5:keyO x∈(mvI B n).ob.map keyO:=by rw[h1];exact List.mem_map_of_mem hx
   obtain⟨x',hx',e'⟩:=List.mem_map.1 h5
   exact⟨x',hx',(congrArg Prod.fst e').trans e⟩)
  refine⟨h3.trans h1,fun y=> ?_⟩
  rw[List.foldl_cons,h4,h2,List.contains_cons,Bool.not_or,←Bool.and_assoc,Bool.and_comm (!(l.contains y.id))]
theorem dy_ex(cs:List Cd)(B:Bd):∀n∈dyL cs B,∃x∈B.ob,x.id=n:=fun n hn=>by
 obtain⟨k,x,h1,h2,_⟩:=pk_mem hn
 exact⟨x,List.mem_of_getElem? h1,h2⟩
theorem dm_on(cs:List (Cd×List (Int×Nat)))(B:Bd):(dmB cs B).ob.map keyO=B.ob.map keyO∧∀y,onF (dmB cs B) y=(!((dyL (cs.map Prod.fst) B).contains y.id)&&onF B y):=mvs_on (dy_ex _ B)
theorem filt_key{l m:List Ob}(h:l.map keyO=m.map keyO)(g:Int×Int×Int→Bool):(l.filter (fun o=>g (keyO o))).map Ob.id=(m.filter (fun o=>g (keyO o))).map Ob.id:=by
 have key:∀l:List Ob,(l.filter (fun o=>g (keyO o))).map Ob.id=((l.map keyO).filter g).map Prod.fst:=fun l=>by
  rw[List.filter_map,List.map_map]
  rfl
 rw[key,key,h]
theorem mem_dy{cs:List Cd}{B:Bd}(h:VB B){o:Ob}(ho:o∈B.ob):(dyL cs B).contains o.id=dyB cs B o:=by
 rw[Bool.eq_iff_iff,List.contains_iff_mem]
 constructor
 ·intro hm
  obtain⟨k,x,h1,h2,h3⟩:=pk_mem (p:=dyB cs B) hm
  obtain⟨i,hi⟩:=List.mem_iff_getElem?.1 ho
  have e:=ix_at h hi h1 h2;subst e;rw[hi] at h1
  cases h1
  exact h3
 ·intro hd
  unfold dyL pkL;exact List.mem_map.2 ⟨o,List.mem_filter.2 ⟨ho,hd⟩,rfl⟩
/-- which tokens go: all but those that stay on the battlefield -/
theorem dm_go(cs:List (Cd×List (Int×Nat))){B:Bd}(h:VB B):goL (dmB cs B)=(B.ob.filter (fun o=>decide (o.cd<0)&& !(onF B o&& !(deB (cs.map Prod.fst) o)))).map Ob.id:=by
 obtain⟨h1,h2⟩:=dm_on cs B
 unfold goL pkL goB;have e:(fun o=>decide (o.cd<0)&& !(onF (dmB cs B) o))=(fun o=>(fun k:Int×Int×Int=>decide (k.2.1<0)&& !(!((dyL (cs.map Prod.fst) B).contains k.1)&&decide (k.1∈(B.seat k.2.2.toNat).fld))) (keyO o)):=funext (fun o=>by rw[h2];rfl);rw[e]
 refine(filt_key h1 (fun k:Int×Int×Int=>decide (k.2.1<0)&& !(!((dyL (cs.map Prod.fst) B).contains k.1)&&decide (k.1∈(B.seat k.2.2.toNat).fld)))).trans ?_
 congr 1
 refine List.filter_congr (fun o ho=> ?_)
 show(decide (o.cd<0)&& !(!((dyL (cs.map Prod.fst) B).contains o.id)&&onF B o))=_
 rw[mem_dy h ho];unfold dyB
 cases onF B o<;>cases deB (cs.map Prod.fst) o<;>rfl
theorem rms_lenE{B:Bd}(h:VB B){l:List Int}(hn:l.Nodup)(hl:goL B=l):∀k,k≤l.length→((l.take k).foldl rmI B).ob.length+k=B.ob.length
 |0,_=>rfl
 |k+1,hk=>by
  have ih:=rms_lenE h hn hl k (by omega)
  obtain⟨C,C2,i,x,e1,e2,_,hi,_,_,e3⟩:=rms_next h hn hl (k:=k) (by omega)
  rw[e2,←e3];rw[e1] at ih
  have hil:=(List.getElem?_eq_some_iff.1 hi).1
  have e4:(rmB C i x.id).ob.length=C.ob.length-1:=by
   show(C.ob.eraseIdx i).length=_
   rw[List.length_eraseIdx,if_pos hil]
  omega
theorem sw_len{B:Bd}(h:VB B):(swB B).ob.length+(goL B).length=B.ob.length:=by
 have h1:=rms_lenE h (l:=goL B) (pk_nodup h _) rfl (goL B).length (Nat.le_refl _);rw[List.take_length] at h1
 exact h1
theorem dm_vb(cs:List (Cd×List (Int×Nat))){B:Bd}(h:VB B):VB (dmB cs B):=(mvs_dy _ h (pk_nodup h _) rfl).1
theorem ck_len(cs:List (Cd×List (Int×Nat))){B:Bd}(h:VB B)(t:Int):(ckB cs B t).ob.length+(goL (dmB cs B)).length=B.ob.length:=by
 rw[ckB_eq];have h1:=sw_len (dm_vb cs h);have h2:(dmB cs B).ob.length=B.ob.length:=mvs_len _ _;rw[h2] at h1
 exact h1
/-- tokens that die trigger nothing -/
theorem dyA_nil(cs:List (Cd×List (Int×Nat))){B:Bd}(h:VB B)(hd:∀o∈B.ob,dyB (cs.map Prod.fst) B o=true→o.cd<0):dyA cs B=[]:=by
 unfold dyA allL hpL;rw[List.flatMap_map];refine List.flatMap_eq_nil_iff.2 (fun n hn=> ?_);unfold hapK;refine List.flatMap_eq_nil_iff.2 (fun o ho=> ?_)
 split
 ·rename_i ha
  have ho2:o.id=n:=by
   unfold abt at ha
   simpa using ha
  have h1:(dyL (cs.map Prod.fst) B).contains o.id=true:=by rw[ho2];exact List.contains_iff_mem.2 hn
  rw[mem_dy h ho] at h1
  exact trO_neg (hd o ho h1)
 ·rfl
end Go.Proofs.Ytpbepnpnpopmfaa
namespace Go.Proofs.Ytpbepnpnpopmfaa
open Go.RowKit Plain
set_option linter.unusedVariables false
set_option linter.unusedSimpArgs false

/-- the places of a board with one card more in a zone -/
theorem addL_prs{B:Bd}{p z:Nat}{n:Int}(hp:p<2)(hz:z<4):(B.setL p z ((B.seat p).zs z++[n])).prs.Perm ((n,(p:Int))::B.prs):=by
 have:(p=0∧z=0)∨(p=0∧z=1)∨(p=0∧z=2)∨(p=0∧z=3)∨(p=1∧z=0)∨(p=1∧z=1)∨(p=1∧z=2)∨(p=1∧z=3):=by omega
 rw[List.perm_iff_count];intro a;rcases this with⟨rfl,rfl⟩|⟨rfl,rfl⟩|⟨rfl,rfl⟩|⟨rfl,rfl⟩|⟨rfl,rfl⟩|⟨rfl,rfl⟩|⟨rfl,rfl⟩|⟨rfl,rfl⟩<;>
 ·simp[Bd.prs,Bd.setL,Bd.seat,Se.setL,Se.zs,Se.all,pr,List.count_append,List.count_cons]
  omega
theorem setL_oth(B:Bd)(p z:Nat)(l:List Int):(B.setL p z l).tu=B.tu∧(B.setL p z l).ac=B.ac∧(B.setL p z l).ph=B.ph∧(B.setL p z l).ho=B.ho∧(B.setL p z l).pa=B.pa∧(B.setL p z l).att=B.att:=by
 unfold Bd.setL
 split<;>exact⟨rfl,rfl,rfl,rfl,rfl,rfl⟩
theorem setL_ob(C:Bd)(p z:Nat)(l:List Int)(o:List Ob):({C.setL p z l with ob:=o}:Bd)=({C with ob:=o}:Bd).setL p z l:=by
 unfold Bd.setL
 split<;>rfl
theorem setL_fldz(C:Bd){p q z:Nat}(l:List Int)(hp:p<2)(hq:q<2)(hz:z<4):((C.setL p z l).seat q).fld=if q=p∧z=2 then l else (C.seat q).fld:=by
 have h1:p=0∨p=1:=by omega
 have h2:q=0∨q=1:=by omega
 have h3:z=0∨z=1∨z=2∨z=3:=by omega
 rcases h1 with rfl|rfl<;>rcases h2 with rfl|rfl<;>rcases h3 with rfl|rfl|rfl|rfl<;>rfl
theorem seq_pw{l:List Ob}(h:Seq l):(l.map Ob.id).Pairwise (·< ·):=by
 rw[List.pairwise_iff_getElem];intro i j hi hj hij;rw[List.length_map] at hi hj
 have h1:=h i l[i] (List.getElem?_eq_getElem hi);have h2:=h j l[j] (List.getElem?_eq_getElem hj);simp only[List.getElem_map];omega
theorem seq_add{l:List Ob}(h:Seq l){o:Ob}(ho:o.id=((l.length+1:Nat):Int)):Seq (l++[o]):=fun i q hq=>by
 rw[List.getElem?_append] at hq
 split at hq
 ·exact h i q hq
 ·rename_i hi
  have hi2:i=l.length:=by
   have:=(List.getElem?_eq_some_iff.1 hq).1
   simp at this
   omega
  subst hi2;simp at hq
  rw[←hq,ho]
/-- a valid board with one object more -/
theorem Plain.VB.addT{B:Bd}(h:VB B)(hst:B.st=[])(hqu:B.qu=[])(hatt:B.att=[])(hbl:B.bl=[]){o:Ob}(hq:Seq B.ob)(hfr:∀y∈B.prs,y.1≤(B.ob.length:Int))(hl:B.ob.length<500){p z:Nat}(hp:p<2)(hz:z<4)(hid:o.id=((B.ob.length+1:Nat):Int))(how:o.ow=(p:Nat))(hv:vO o=true):VB (({B with ob:=B.ob++[o]}:Bd).setL p z ((B.seat p).zs z++[o.id])):=by
 obtain⟨g1,g2,g3,g4⟩:=setL_rest ({B with ob:=B.ob++[o]}:Bd) ((B.seat p).zs z++[o.id]) (p:=p) (z:=z) hp hz
 obtain⟨q1,q2,q3,q4,q5,q6⟩:=setL_oth ({B with ob:=B.ob++[o]}:Bd) p z ((B.seat p).zs z++[o.id])
 obtain⟨f0,f1⟩:=setL_seB (B:=({B with ob:=B.ob++[o]}:Bd)) p z ((B.seat p).zs z++[o.id]) h.se0 h.se1
 have hp2:(({B with ob:=B.ob++[o]}:Bd).setL p z ((B.seat p).zs z++[o.id])).prs.Perm ((o.id,(p:Int))::B.prs):=addL_prs (B:=({B with ob:=B.ob++[o]}:Bd)) hp hz;refine vb_of ?_ f0 f1 (g2.trans hst) (g3.trans hqu) (q6.trans hatt) (g4.trans hbl) ?_ ?_ ?_ ?_
 ·obtain⟨n1,n2,n3,n4,n5,n6,n7,n8⟩:=h.num
  unfold vNum;rw[q1,q2,q3,q4,q5,g1,g2,g3]
  exact⟨n1,n2,n3,n4,n5,by show(B.ob++[o]).length≤500;rw[List.length_append];simp;omega,n7,n8⟩
 ·refine(hp2.map Prod.fst).nodup_iff.2 ?_
  rw[List.map_cons,List.nodup_cons]
  refine⟨fun hm=> ?_,h.plc.nd⟩
  obtain⟨y,hy,e⟩:=List.mem_map.1 hm
  have h1:=hfr y hy;have e2:y.1=((B.ob.length+1:Nat):Int):=e.trans hid;omega
 ·rw[g1]
  refine List.all_eq_true.2 (fun q hq=> ?_);simp only[Bool.and_eq_true,decide_eq_true_eq];rcases List.mem_append.1 hq with h1|h1
  ·obtain⟨i,hi⟩:=List.mem_iff_getElem?.1 h1
   have h2:=h.plc.ob i q hi
   exact⟨h2.1,hp2.mem_iff.2 (List.mem_cons_of_mem _ h2.2.2.1)⟩
  ·obtain rfl:=List.mem_singleton.1 h1
   exact⟨hv,hp2.mem_iff.2 (by rw[how];exact List.mem_cons_self)⟩
 ·rw[g1]
  exact seq_pw (seq_add hq hid)
 ·rw[g1,hp2.length_eq,List.length_cons,h.plc.len]
  show _=(B.ob++[o]).length
  rw[List.length_append]
  rfl
theorem wo_fr{n:Int}{l:List Int}(h:∀a∈l,a≠n):wo n l=l:=List.filter_eq_self.2 (fun a ha=>by simpa using h a ha)
theorem wo_last{n:Int}{l:List Int}(h:∀a∈l,a≠n):wo n (l++[n])=l:=by
 rw[wo_app,wo_fr h];simp[wo]
/-- the tokens of the law: their toughness and their zones -/
def Plain.tsT(f:Nat→Nat×Nat)(j:Nat):Ob:=tkO ((j+3:Nat):Int) ((j%2:Nat):Int) 1 ((f j).1:Nat)
def Plain.tsO(d:Nat)(f:Nat→Nat×Nat)(j:Nat):Ob:=if (f j).2=2 then daO (tsT f j) d else rsO (tsT f j) ((f j).2:Nat)
def Plain.tsB(d:Nat)(f:Nat→Nat×Nat):Nat→Bd
 |0=>newB 9 [1] [1]
 |i+1=>({tsB d f i with ob:=(tsB d f i).ob++[tsO d f i]}:Bd).setL (i%2) (f i).2 (((tsB d f i).seat (i%2)).zs (f i).2++[((i+3:Nat):Int)])
theorem tsT_v(f:Nat→Nat×Nat){j:Nat}(hj:j<400)(hf:(f j).1<3):vO (tsT f j)=true:=by
 have h1:ad 0 ((f j).1:Nat)=((f j).1:Nat):=by unfold ad cl;omega
 have h2:ad 0 1=1:=by decide
 refine decide_eq_true ?_;simp only[tsT,tkO,h1,h2]
 refine⟨?_,?_,?_,?_,?_,?_,?_,?_,?_,?_,?_,?_⟩<;>first|omega|exact .inl trivial
theorem tsO_v(d:Nat)(f:Nat→Nat×Nat){j:Nat}(hd:d≤5)(hj:j<400)(hf:(f j).1<3):vO (tsO d f j)=true:=by
 unfold tsO
 split
 ·have h:=of_decide_eq_true (tsT_v f hj hf)
  refine decide_eq_true ?_;simp only[daO];omega
 ·exact vO_rs _ (tsT_v f hj hf)
theorem tsO_id(d:Nat)(f:Nat→Nat×Nat)(j:Nat):(tsO d f j).id=((j+3:Nat):Int)∧(tsO d f j).ow=((j%2:Nat):Int)∧(tsO d f j).cd= -1:=by
 unfold tsO
 split<;>exact⟨rfl,rfl,rfl⟩
structure Plain.TsI(d:Nat)(f:Nat→Nat×Nat)(i:Nat):Prop where
 len:(tsB d f i).ob.length=i+2
 seq:Seq (tsB d f i).ob
 fr:∀y∈(tsB d f i).prs,y.1≤((tsB d f i).ob.length:Int)
 ob:(tsB d f i).ob=[mkO 0 0 1,mkO 1 1 1]++(List.range i).map (tsO d f)
 st:(tsB d f i).st=[]
 qu:(tsB d f i).qu=[]
 att:(tsB d f i).att=[]
 bl:(tsB d f i).bl=[]
 vb:VB (tsB d f i)
 fld:∀p,p<2→∀a,a∈((tsB d f i).seat p).fld↔∃j,j<i∧j%2=p∧(f j).2=2∧a=((j+3:Nat):Int)
theorem tsI(d:Nat)(f:Nat→Nat×Nat)(hd:d≤5)(hf:∀j,(f j).1<3∧(f j).2<4):∀i,i≤300→TsI d f i
 |0,_=>⟨rfl,(show Seq (newB 9 [1] [1]).ob from seqF _ (by decide+kernel)),(show ∀y∈(newB 9 [1] [1]).prs,y.1≤((newB 9 [1] [1]).ob.length:Int) by decide+kernel),rfl,rfl,rfl,rfl,rfl,(show VB (newB 9 [1] [1]) from vbD_vb (by decide+kernel)),fun p hp a=>by
  have:p=0∨p=1:=by omega
  have hn:((newB 9 [1] [1]).seat p).fld=[]:=by rcases this with rfl|rfl<;>rfl
  show a∈((newB 9 [1] [1]).seat p).fld↔_
  rw[hn]
  constructor
  ·intro h
   cases h
  ·rintro⟨j,hj,_⟩
   omega⟩
 |i+1,hi=>by
  have h:=tsI d f hd hf i (by omega);have hp:i%2<2:=Nat.mod_lt _ (by omega);have hz:=(hf i).2
  obtain⟨g1,g2,g3,g4⟩:=setL_rest ({tsB d f i with ob:=(tsB d f i).ob++[tsO d f i]}:Bd) (((tsB d f i).seat (i%2)).zs (f i).2++[((i+3:Nat):Int)]) hp hz
  obtain⟨_,_,_,_,_,q6⟩:=setL_oth ({tsB d f i with ob:=(tsB d f i).ob++[tsO d f i]}:Bd) (i%2) (f i).2 (((tsB d f i).seat (i%2)).zs (f i).2++[((i+3:Nat):Int)])
  obtain⟨i1,i2,i3⟩:=tsO_id d f i
  have hid:(tsO d f i).id=(((tsB d f i).ob.length+1:Nat):Int):=by rw[i1,h.len]
  have hpr:(tsB d f (i+1)).prs.Perm ((((i+3:Nat):Int),((i%2:Nat):Int))::(tsB d f i).prs):=addL_prs (B:=({tsB d f i with ob:=(tsB d f i).ob++[tsO d f i]}:Bd)) hp hz
  have hlen:(tsB d f (i+1)).ob.length=i+1+2:=by
   show(Bd.setL _ _ _ _).ob.length=_
   rw[g1,List.length_append,h.len]
   simp
  refine⟨hlen,?_,fun y hy=> ?_,?_,g2.trans h.st,g3.trans h.qu,q6.trans h.att,g4.trans h.bl,?_,fun p hp2 a=> ?_⟩
  ·show Seq (Bd.setL _ _ _ _).ob
   rw[g1];exact seq_add h.seq hid
  ·rw[hlen]
   rcases List.mem_cons.1 (hpr.mem_iff.1 hy) with e|e
   ·rw[e]
    show((i+3:Nat):Int)≤_
    omega
   ·have h1:=h.fr y e
    rw[h.len] at h1
    omega
  ·show(Bd.setL _ _ _ _).ob=_
   rw[g1,List.range_succ,List.map_append,←List.append_assoc,←h.ob]
   rfl
  ·have h1:=h.vb.addT h.st h.qu h.att h.bl h.seq h.fr (by rw[h.len];omega) hp hz hid i2 (tsO_v d f hd (by omega) (hf i).1)
   rw[i1] at h1
   exact h1
  ·show a∈((Bd.setL _ _ _ _).seat p).fld↔_
   rw[setL_fldz _ _ hp hp2 hz];have ih:=h.fld p hp2 a;have e0:(({tsB d f i with ob:=(tsB d f i).ob++[tsO d f i]}:Bd).seat p).fld=((tsB d f i).seat p).fld:=rfl;rw[e0]
   split
   ·rename_i hc
    obtain⟨rfl,hc2⟩:=hc
    rw[List.mem_append,List.mem_singleton];have e2:((tsB d f i).seat (i%2)).zs (f i).2=((tsB d f i).seat (i%2)).fld:=by rw[hc2];rfl
    rw[e2,ih]
    constructor
    ·rintro(⟨j,h1,h2,h3,h4⟩|h1)
     ·exact⟨j,by omega,h2,h3,h4⟩
     ·exact⟨i,by omega,rfl,hc2,h1⟩
    ·rintro⟨j,h1,h2,h3,h4⟩
     by_cases hji:j=i
     ·subst hji
      exact .inr h4
     ·exact .inl ⟨j,by omega,h2,h3,h4⟩
   ·rename_i hc
    rw[ih]
    constructor
    ·rintro⟨j,h1,h2,h3,h4⟩
     exact⟨j,by omega,h2,h3,h4⟩
    ·rintro⟨j,h1,h2,h3,h4⟩
     have hji:j≠i:=fun e=>hc ⟨by rw[←e];exact h2.symm,by rw[←e];exact h3⟩
     exact⟨j,by omega,h2,h3,h4⟩
/-- how many numbers below n there are for which g holds -/
def Plain.cnt(g:Nat→Bool)(n:Nat):Nat:=((List.range n).filter g).length
theorem cnt_succ(g:Nat→Bool)(n:Nat):cnt g (n+1)=cnt g n+if g n then 1 else 0:=by
 unfold cnt;rw[List.range_succ,List.filter_append,List.length_append]
 congr 1
 cases h:g n<;>simp[h]
theorem cnt_not(g:Nat→Bool):∀n,cnt (fun j=> !g j) n+cnt g n=n
 |0=>rfl
 |n+1=>by
  have ih:=cnt_not g n;rw[cnt_succ,cnt_succ]
  cases g n<;>simp<;>omega
theorem cnt_le(g:Nat→Bool)(n:Nat):cnt g n≤n:=by
 unfold cnt;have h:=List.length_filter_le g (List.range n)
 rwa [List.length_range] at h
theorem cnt_map{α:Type}(F:Nat→α)(P:α→Bool)(g:Nat→Bool)(n:Nat)(h:∀j,j<n→P (F j)=g j):(((List.range n).map F).filter P).length=cnt g n:=by
 unfold cnt;rw[List.filter_map,List.length_map]
 congr 1
 exact List.filter_congr (fun j hj=>h j (List.mem_range.1 hj))
/-- tokens on the battlefield that live, and that must die -/
def Plain.liN(d:Nat)(f:Nat→Nat×Nat)(j:Nat):Bool:=decide ((f j).2=2)&&decide (d<(f j).1)
def Plain.twN(d:Nat)(f:Nat→Nat×Nat)(j:Nat):Bool:=decide ((f j).2=2)&&decide ((f j).1≤d)
theorem ts_on{d:Nat}{f:Nat→Nat×Nat}{n:Nat}(h:TsI d f n){j:Nat}(hj:j<n):onF (tsB d f n) (tsO d f j)=decide ((f j).2=2):=by
 obtain⟨i1,i2,i3⟩:=tsO_id d f j
 have hp:j%2<2:=Nat.mod_lt _ (by omega);unfold onF;rw[i1,i2,Int.toNat_natCast];refine decide_eq_decide.2 ((h.fld _ hp _).trans ⟨?_,fun h2=>⟨j,hj,rfl,h2,rfl⟩⟩)
 rintro⟨k,h1,h2,h3,h4⟩
 have:k=j:=by omega
 rw[←this];exact h3
theorem ts_c0{d:Nat}{f:Nat→Nat×Nat}{n:Nat}(h:TsI d f n):onF (tsB d f n) (mkO 0 0 1)=false∧onF (tsB d f n) (mkO 1 1 1)=false:=by
 unfold onF
 refine⟨decide_eq_false (fun hm=> ?_),decide_eq_false (fun hm=> ?_)⟩
 ·obtain⟨k,_,_,_,h4⟩:=(h.fld 0 (by omega) _).1 hm
  simp[mkO] at h4
  omega
 ·obtain⟨k,_,_,_,h4⟩:=(h.fld 1 (by omega) _).1 hm
  simp[mkO] at h4
  omega
theorem ts_de(cs:List Cd)(d:Nat)(f:Nat→Nat×Nat){j:Nat}(hf:(f j).1<3)(hz:(f j).2=2):deB cs (tsO d f j)=decide ((f j).1≤d):=by
 have h1:ad (ad (ad 0 ((f j).1:Nat)) 0) 0=((f j).1:Nat):=by unfold ad cl;omega
 unfold tsO;rw[if_pos hz];have e:toB cs (daO (tsT f j) d)=((f j).1:Nat):=h1;unfold deB;rw[e]
 show(true&&(false||decide (((f j).1:Int)=0)||decide (((f j).1:Int)≤(d:Int))))=_
 by_cases h:(f j).1≤d
 ·have h2:decide (((f j).1:Int)≤(d:Int))=true:=decide_eq_true (by omega)
  rw[h2,decide_eq_true h]
  simp
 ·have h2:decide (((f j).1:Int)≤(d:Int))=false:=decide_eq_false (by omega)
  have h3:decide (((f j).1:Int)=0)=false:=decide_eq_false (by omega);rw[h2,h3,decide_eq_false h]
  rfl
theorem ts_dy(cs:List Cd){d:Nat}{f:Nat→Nat×Nat}{n:Nat}(h:TsI d f n)(hf:∀j,(f j).1<3∧(f j).2<4){j:Nat}(hj:j<n):dyB cs (tsB d f n) (tsO d f j)=twN d f j:=by
 unfold dyB twN;rw[ts_on h hj]
 by_cases hz:(f j).2=2
 ·rw[ts_de cs d f (hf j).1 hz]
 ·rw[decide_eq_false hz]
  rfl
theorem ts_res(a:Nat){d:Nat}{f:Nat→Nat×Nat}{n:Nat}(h:TsI d f n)(hf:∀j,(f j).1<3∧(f j).2<4)(t:Int):ckN (csP a) (tsB d f n) t=cnt (twN d f) n+(n-cnt (liN d f) n)∧(ckB (csP a) (tsB d f n) t).ob.length=2+cnt (liN d f) n∧(ckB (csP a) (tsB d f n) t).qu=[]:=by
 obtain⟨c0,c1⟩:=ts_c0 h
 have e1:(dyL ((csP a).map Prod.fst) (tsB d f n)).length=cnt (twN d f) n:=by
  unfold dyL pkL;rw[List.length_map,h.ob,List.filter_append,List.length_append,cnt_map _ _ (twN d f) n (fun j hj=>ts_dy _ h hf hj)];simp[dyB,c0,c1]
 have e2:(goL (dmB (csP a) (tsB d f n))).length=n-cnt (liN d f) n:=by
  rw[dm_go _ h.vb,List.length_map,h.ob,List.filter_append,List.length_append,cnt_map _ _ (fun j=> !liN d f j) n (fun j hj=> ?_)]
  ·have:=cnt_not (liN d f) n
   simp[mkO];omega
  ·obtain⟨_,_,i3⟩:=tsO_id d f j
   rw[i3,ts_on h hj];unfold liN
   by_cases hz:(f j).2=2
   ·rw[ts_de _ d f (hf j).1 hz]
    by_cases hd:(f j).1≤d
    ·have:¬d<(f j).1:=by omega
     simp[hz,hd,this]
    ·have:d<(f j).1:=by omega
     simp[hz,hd,this]
   ·simp[hz]
 have e3:dyA (csP a) (tsB d f n)=[]:=dyA_nil _ h.vb (fun o ho hd=>by
  rw[h.ob] at ho
  rcases List.mem_append.1 ho with h1|h1
  ·simp only[List.mem_cons,List.not_mem_nil,or_false] at h1
   rcases h1 with rfl|rfl
   ·unfold dyB at hd
    rw[c0] at hd
    cases hd
   ·unfold dyB at hd
    rw[c1] at hd
    cases hd
  ·obtain⟨j,_,rfl⟩:=List.mem_map.1 h1
   rw[(tsO_id d f j).2.2]
   decide)
 refine⟨by rw[ckN_eq,e1,e2],?_,?_⟩
 ·have h1:=ck_len (csP a) h.vb t
  rw[e2,h.len] at h1
  have:=cnt_le (liN d f) n
  omega
 ·rw[ckB_eq]
  show ckQ (csP a) (tsB d f n) t=[]
  unfold ckQ;rw[e3,h.qu]
  rfl
/-- a board with a token that has just come -/
def Plain.tsK(d:Nat)(f:Nat→Nat×Nat)(i:Nat):Bd:=tkB (tsB d f i) (i%2) 1 ((f i).1:Nat)
theorem tsK_ob{d:Nat}{f:Nat→Nat×Nat}{i:Nat}(h:TsI d f i):(tsK d f i).ob=(tsB d f i).ob++[tsT f i]:=by
 have hp:i%2<2:=Nat.mod_lt _ (by omega);unfold tsK tkB;rw[(setL_rest _ _ hp (by omega:2<4)).1,h.len]
 rfl
theorem tsK_vb{d:Nat}{f:Nat→Nat×Nat}{i:Nat}(h:TsI d f i)(hi:i≤300)(hf:(f i).1<3):VB (tsK d f i):=by
 have hp:i%2<2:=Nat.mod_lt _ (by omega);have h1:=h.vb.addT (o:=tsT f i) h.st h.qu h.att h.bl h.seq h.fr (by rw[h.len];omega) hp (by omega:2<4) (by rw[h.len];rfl) rfl (tsT_v f (by omega) hf)
 have e:tsK d f i=({tsB d f i with ob:=(tsB d f i).ob++[tsT f i]}:Bd).setL (i%2) 2 (((tsB d f i).seat (i%2)).zs 2++[(tsT f i).id]):=by
  unfold tsK tkB;rw[h.len]
  rfl
 rw[e];exact h1
theorem tsK_at{d:Nat}{f:Nat→Nat×Nat}{i:Nat}(h:TsI d f i):(tsK d f i).ob[i+2]? =some (tsT f i):=by
 rw[tsK_ob h,List.getElem?_append_right (by rw[h.len];omega),h.len]
 simp
theorem tsK_first{d:Nat}{f:Nat→Nat×Nat}{i:Nat}(h:TsI d f i):Seq (tsK d f i).ob:=by
 rw[tsK_ob h];exact seq_add h.seq (by rw[h.len];rfl)
/-- the token stays -/
theorem ts_stay{d:Nat}{f:Nat→Nat×Nat}{i:Nat}(h:TsI d f i)(hz:(f i).2=2):setB (tsK d f i) (i+2) (daO (tsT f i) d)=tsB d f (i+1):=by
 have e1:=tsK_ob h;unfold setB;rw[e1,List.set_append_right _ _ (by rw[h.len];omega),h.len];unfold tsK tkB;rw[setL_ob]
 show _=Bd.setL _ _ _ _
 have e2:tsO d f i=daO (tsT f i) d:=by unfold tsO;rw[if_pos hz]
 rw[e2,hz,h.len]
 simp
 rfl
theorem sall_prs{B:Bd}{p:Nat}(hp:p<2){a:Int}(h:a∈(B.seat p).all):(a,(p:Int))∈B.prs:=by
 have:p=0∨p=1:=by omega
 unfold Bd.prs pr;rcases this with rfl|rfl
 ·exact List.mem_append.2 (.inl (List.mem_append.2 (.inl (List.mem_map.2 ⟨a,h,rfl⟩))))
 ·exact List.mem_append.2 (.inl (List.mem_append.2 (.inr (List.mem_map.2 ⟨a,h,rfl⟩))))
/-- the token goes to another zone -/
theorem ts_goes{d:Nat}{f:Nat→Nat×Nat}{i:Nat}(h:TsI d f i)(hz:(f i).2≠2):mvB (tsK d f i) (i+2) (tsT f i) (i%2) (f i).2=tsB d f (i+1):=by
 have hp:i%2<2:=Nat.mod_lt _ (by omega)
 have hfr:∀p,p<2→∀a∈((tsB d f i).seat p).all,a≠(tsT f i).id:=fun p hp a ha e=>by
  have h1:=h.fr _ (sall_prs hp ha);rw[h.len] at h1
  have e2:(tsT f i).id=((i+3:Nat):Int):=rfl;have h3:a≤((i+2:Nat):Int):=h1;omega
 have w0:∀p,p<2→wo (tsT f i).id ((tsB d f i).seat p).lib=((tsB d f i).seat p).lib∧wo (tsT f i).id ((tsB d f i).seat p).hand=((tsB d f i).seat p).hand∧wo (tsT f i).id ((tsB d f i).seat p).fld=((tsB d f i).seat p).fld∧wo (tsT f i).id ((tsB d f i).seat p).grv=((tsB d f i).seat p).grv∧wo (tsT f i).id (((tsB d f i).seat p).fld++[(tsT f i).id])=((tsB d f i).seat p).fld:=fun p hp2=>by
  have hh:=hfr p hp2;unfold Se.all at hh
  exact⟨wo_fr (fun a ha=>hh a (by simp[ha])),wo_fr (fun a ha=>hh a (by simp[ha])),wo_fr (fun a ha=>hh a (by simp[ha])),wo_fr (fun a ha=>hh a (by simp[ha])),wo_last (fun a ha=>hh a (by simp[ha]))⟩
 have eo:outB (tsK d f i) (tsT f i).id=({tsB d f i with ob:=(tsB d f i).ob++[tsT f i]}:Bd):=by
  have e0:tsK d f i=({tsB d f i with ob:=(tsB d f i).ob++[tsT f i]}:Bd).setL (i%2) 2 (((tsB d f i).seat (i%2)).fld++[(tsT f i).id]):=by
   unfold tsK tkB;rw[h.len]
   rfl
  obtain⟨a1,a2,a3,a4,a5⟩:=w0 0 (by omega)
  obtain⟨b1,b2,b3,b4,b5⟩:=w0 1 (by omega)
  rw[e0]
  have:i%2=0∨i%2=1:=by omega
  rcases this with e|e<;>rw[e]
  ·show Bd.mk _ ⟨_,_,_,_,_,wo _ ((tsB d f i).seat 0).lib,wo _ ((tsB d f i).seat 0).hand,wo _ (((tsB d f i).seat 0).fld++[(tsT f i).id]),wo _ ((tsB d f i).seat 0).grv,_,_,_,_,_⟩ ⟨_,_,_,_,_,wo _ ((tsB d f i).seat 1).lib,wo _ ((tsB d f i).seat 1).hand,wo _ ((tsB d f i).seat 1).fld,wo _ ((tsB d f i).seat 1).grv,_,_,_,_,_⟩ ((tsB d f i).st.filter _) _ (wo _ (tsB d f i).att) ((tsB d f i).bl.filter _) _ _ _ _ _=Bd.mk ((tsB d f i).ob++[tsT f i]) (tsB d f i).s0 (tsB d f i).s1 (tsB d f i).st (tsB d f i).qu (tsB d f i).att (tsB d f i).bl (tsB d f i).tu (tsB d f i).ac (tsB d f i).ph (tsB d f i).ho (tsB d f i).pa
   rw[a1,a2,a5,a4,b1,b2,b3,b4,h.st,h.att,h.bl]
   rfl
  ·show Bd.mk _ ⟨_,_,_,_,_,wo _ ((tsB d f i).seat 0).lib,wo _ ((tsB d f i).seat 0).hand,wo _ ((tsB d f i).seat 0).fld,wo _ ((tsB d f i).seat 0).grv,_,_,_,_,_⟩ ⟨_,_,_,_,_,wo _ ((tsB d f i).seat 1).lib,wo _ ((tsB d f i).seat 1).hand,wo _ (((tsB d f i).seat 1).fld++[(tsT f i).id]),wo _ ((tsB d f i).seat 1).grv,_,_,_,_,_⟩ ((tsB d f i).st.filter _) _ (wo _ (tsB d f i).att) ((tsB d f i).bl.filter _) _ _ _ _ _=Bd.mk ((tsB d f i).ob++[tsT f i]) (tsB d f i).s0 (tsB d f i).s1 (tsB d f i).st (tsB d f i).qu (tsB d f i).att (tsB d f i).bl (tsB d f i).tu (tsB d f i).ac (tsB d f i).ph (tsB d f i).ho (tsB d f i).pa
   rw[a1,a2,a3,a4,b1,b2,b5,b4,h.st,h.att,h.bl]
   rfl
 unfold mvB moB;rw[eo,tsK_ob h,List.set_append_right _ _ (by rw[h.len];omega),h.len]
 show _=Bd.setL _ _ _ _
 have e2:tsO d f i=rsO (tsT f i) ((f i).2:Nat):=by unfold tsO;rw[if_neg hz]
 rw[e2]
 simp
 rfl
end Go.Proofs.Ytpbepnpnpopmfaa
